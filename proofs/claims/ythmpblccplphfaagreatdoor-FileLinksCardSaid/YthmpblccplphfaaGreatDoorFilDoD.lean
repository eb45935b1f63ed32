/-
  files: parent, removes.
-/
import Derived.Test.YthmpblccplphfaaGreatDoorFilDoA
namespace Go.Proofs.YthmpblccplphfaaGreatDoor
open Go.RowKit
section
variable {w : World} {p tb : Nat} {T : Tr} {A M : Int → Nat} {role : Nat → Role} {d : Int → Nat}
set_option maxRecDepth 100000 in
set_option maxHeartbeats 2000000 in
theorem parent_any (h : TreeAt w p T tb A M role) (hw : WF T d) (he : Env w) (path : List UInt8) (hp : path.length < 4294967281) {q : List (List UInt8)} {s : List UInt8} {o : Int} (hpo : pathOf path = some (q ++ [s])) (hf : findT T 1 q = .ok o) :
    Calls Tryz.prog 75 #[.pointer (some ⟨p, 0, none⟩), .string ⟨path.toArray⟩] w fun e w' => e = .returned (.tuple #[.pointer (some ⟨A o, 0, none⟩), .string ⟨s.toArray⟩]) ∧ Keep w w' := by
  have HT := Lib.hid h
  have HW := Lib.hid hw
  have He := Lib.hid he
  have Hp := Lib.hid hp
  have Hf := Lib.hid hf
  have Hpo := Lib.hid hpo
  clear h hw he hp hf hpo
  go_enter Tryz.func75, Tryz.ntmps75
  go_wp2_with fail
  refine (path_any path w He.out Hp.out).mono ?_
  rintro e w1 ⟨v, rfl, ho, hk⟩
  have hL : pathNames path = q ++ [s] := by rw [pathNames, Hpo.out]; rfl
  rw [hL] at ho
  have HR := Lib.hid (row_strs ho)
  have HT1 := Lib.hid (HT.out.keep hk)
  have HK := Lib.hid hk
  obtain ⟨a, cap, hv⟩ := row_shape HR.out
  rw [srow_len] at hv
  have hcap : (q ++ [s]).length ≤ cap := by rw [hv] at ho; exact own_cap ho
  obtain ⟨N, hN⟩ : ∃ N, q.length = N := ⟨_, rfl⟩
  have hv2 : v = .slice a (N + 1) cap := by rw [hv]; simp [hN]
  subst hv2
  obtain ⟨hR0, b, o', rfl, c0⟩ := row_init HR.out hN
  have HR0 := Lib.hid hR0
  have hcp : N + 1 ≤ cap := by simp [hN] at hcap; omega
  have Hl := Lib.hid (names_small Hpo.out)
  have Hq : RowKit.Hid (q.length = N) := Lib.hid hN
  have hN8 : N ≤ 7 := by have := Hl.out.1; simp at this; omega
  obtain ⟨pe, hpe⟩ : ∃ pe, pathErr path = pe := ⟨_, rfl⟩
  rw [hpe]
  clear hpe hL hv hR0 hN HR hcap ho hk
  go_wp2_with fail
  refine (find_any HT1.out HW.out _ q HR0.out (by have := Hq.out; omega) (fun x hx => by have := Hl.out.2 x (by simp [hx]); omega)).mono ?_
  rintro e w2 ⟨rfl, hk2⟩
  have c1 : w2.cell? ⟨b, o' + N, none⟩ = some (.string ⟨s.toArray⟩) := by rw [hk2.cell (p := ⟨b, o' + N, none⟩) (lt_of_cell c0) id]; exact c0
  have HK2 := Lib.hid (HK.out.keep hk2)
  clear hk2 c0
  rw [Hf.out]
  unfold findV
  go_wp2_with fail
  have q1 : IntKind.i64.wrap (N : Int) = (N : Int) := by rw [IntKind.wrap_i64]; omega
  have q2 : (0 : Int) ≤ N := by omega
  have q3 : (N : Int) < (N : Int) + 1 := by omega
  refine wp_region_qe0 (by kernel_rfl) (by kernel_rfl) ?_
  repeat (quiet_step (fail))
  refine wpQuiet_nil ?_
  intro _ hw'
  obtain ⟨nq, rfl⟩ := hw'
  go_wp2_with fail
  go_ret2
  exact ⟨rfl, HK2.out.drewN _⟩
theorem drop_upd {T : Tr} {j : Int} {f : Nd → Nd} (hf : ∀ n, (f n).num = n.num) : (T.upd j f).drop j = T.drop j := by
  unfold Tr.upd Tr.drop
  induction T with
  | nil => rfl
  | cons y r ih =>
    rw [List.map_cons, List.filter_cons, List.filter_cons, ih]
    have e : (if (y.num == j) = true then f y else y).num = y.num := by
      split
      · exact hf y
      · rfl
    rw [e]
    by_cases h : y.num = j
    · rw [beq_iff_eq.2 h]; rfl
    · rw [beq_false_of_ne h]; rfl
set_option maxRecDepth 100000 in
set_option maxHeartbeats 4000000 in
theorem removes_any (h : TreeAt w p T tb A M role) (hw : WF T d) (he : Env w) (c : Cmd) (hc : c.Small) :
    Calls Tryz.prog 41 #[.pointer (some ⟨p, 0, none⟩), cmdV c] w fun e w' => e = .returned (.int .i64 (removesT T c).2) ∧ Turned w w' p tb role (removesT T c).1 := by
  have HC := Lib.hid hc
  have hk0 : Keep w (w.alloc (.cells (cmdC c) 38)) := (Mod.refl _ w).alloc _
  have HT := Lib.hid (h.keep hk0)
  have HW := Lib.hid hw
  have He := Lib.hid (he.keep hk0)
  have HT0 := Lib.hid h
  have HCB : RowKit.Hid (World.blk (w.alloc (.cells (cmdC c) 38)) w.heap.size (cmdC c) 38) := Lib.hid (blk_new _ _ _)
  clear h hw he hc hk0
  by_cases hroot : c.path = [47]
  · have hq : (c.path == [47]) = true := beq_iff_eq.2 hroot
    have Hv : RowKit.Hid (removesT T c = (T, 144)) := Lib.hid (by rw [removesT, if_pos hroot])
    clear hroot HT He HCB
    go_enter Tryz.func41, Tryz.ntmps41
    unfold cmdV cmdC
    go_wp2_with fail
    go_ret
    exact ⟨by rw [Hv.out]; rfl, by rw [Hv.out]; exact Turned.same HT0.out ((Mod.refl _ w).alloc _)⟩
  · have hq : (c.path == [47]) = false := beq_false_of_ne hroot
    have Hroot := Lib.hid hroot
    clear hroot
    go_enter Tryz.func41, Tryz.ntmps41
    unfold cmdV cmdC
    go_wp2_with fail
    unfold cmdC at HT He HCB
    have HK0 : RowKit.Hid (Keep w (w.alloc (.cells #[.int .i64 c.kind, .string ⟨c.path.toArray⟩, .string ⟨c.dest.toArray⟩, .int .i64 c.pos, .string ⟨c.data.toArray⟩] 38))) := Lib.hid ((Mod.refl _ w).alloc _)
    generalize w.alloc (.cells #[.int .i64 c.kind, .string ⟨c.path.toArray⟩, .string ⟨c.dest.toArray⟩, .int .i64 c.pos, .string ⟨c.data.toArray⟩] 38) = w0 at *
    refine (at_any HT.out HW.out He.out c.path HC.out.path).mono ?_
    rintro e w1 ⟨rfl, hk⟩
    have HCB1 := Lib.hid (blk_mod hk HCB.out id)
    have HT1 := Lib.hid (HT.out.keep hk)
    have He1 := Lib.hid (He.out.keep hk)
    have HK1 := Lib.hid (HK0.out.keep hk)
    clear hk HCB HT He HK0
    cases ha : atT T c.path with
    | error e =>
      have hne : (e == 0) = false := by have := at_err ha; rw [beq_eq_false_iff_ne]; omega
      have Hv : RowKit.Hid (removesT T c = (T, e)) := Lib.hid (by rw [removesT, if_neg Hroot.out, ha])
      clear ha
      unfold findV
      go_wp2_with fail
      go_ret
      exact ⟨by rw [Hv.out]; rfl, by rw [Hv.out]; exact Turned.same HT0.out HK1.out⟩
    | ok j =>
      obtain ⟨_, n, _, _, hg⟩ := at_ok HW.out ha
      obtain ⟨q, s, o, up, hpo, hfj, hfo, hgo, hdo, hs⟩ := last_ok HW.out ha Hroot.out
      have c4 : w1.cell? ⟨A j, 4, none⟩ = some (.map (if n.dir = true then some (M j) else none)) := HT1.out.cell HW.out.sorted hg 4
      obtain ⟨hnum, hnb⟩ := node_num HW.out hg
      have hm := ((get_iff HW.out.sorted).1 hg).1
      have hlen : ∀ ty, (Builtin.len_ #[68] ty #[.map (if n.dir = true then some (M j) else none)]).run Tryz.prog w1 = .ok (.int .i64 (n.names.length : Int)) w1 := fun ty => by
        by_cases hd : n.dir = true
        · rw [if_pos hd]
          have hmap := HT1.out.names n hm hd
          rw [hnum] at hmap
          exact MapN.len hmap Tryz.underlying68 ty
        · rw [if_neg hd]
          have : n.names = [] := (HW.out.file n hm (by simpa using hd)).1
          rw [this]
          exact Maps.len_nil Tryz.underlying68 ty
      have Hnum := Lib.hid hnum
      have Hg := Lib.hid hg
      have Hup := Lib.hid (And.intro hgo (And.intro hdo hs))
      have Hpo := Lib.hid hpo
      have Hfo := Lib.hid hfo
      have hsl : s.length ≤ 16 := by
        have := (names_small hpo).2 s (by simp)
        exact this
      have h60 := (HW.out.names n hm).1
      generalize hmp : (Value.map (if n.dir = true then some (M j) else none)) = mp at *
      clear hmp
      have z1 : w1.cell? ⟨w.heap.size, 1, none⟩ = some (.string ⟨c.path.toArray⟩) := blk_cell HCB1.out 1
      unfold findV
      by_cases hnm : n.names = []
      · have hl0 : n.names.length = 0 := by rw [hnm]; rfl
        rw [hl0] at hlen
        have Hnm := Lib.hid hnm
        have Hv : RowKit.Hid (removesT T c = (if n.links = 1 then (T.named o (delN s)).drop j else (T.named o (delN s)).upd j fun n => { n with links := n.links - 1 }, 0)) := Lib.hid (by
          rw [removesT, if_neg Hroot.out, ha]
          simp [hg, hnm, hpo, hfo])
        clear ha hg hfj hpo hfo hgo hdo hs hnum hm hnm h60 hl0
        go_wp2_with fail
        refine (parent_any HT1.out HW.out He1.out c.path HC.out.path Hpo.out Hfo.out).mono ?_
        rintro e w2 ⟨rfl, hk⟩
        have HT2 := Lib.hid (HT1.out.keep hk)
        have HK2 := Lib.hid (HK1.out.keep hk)
        clear hk c4 z1 hlen
        obtain ⟨hom, hon⟩ := (get_iff HW.out.sorted).1 Hup.out.1
        have d4 : w2.cell? ⟨A o, 4, none⟩ = some (.map (if up.dir = true then some (M o) else none)) := HT2.out.cell HW.out.sorted Hup.out.1 4
        rw [if_pos Hup.out.2.1] at d4
        have hmap := HT2.out.names up hom Hup.out.2.1
        rw [hon] at hmap
        have hjo : j ≠ o := fun e => by
          have h1 := Hg.out
          rw [e, Hup.out.1] at h1
          have h2 := Option.some.inj h1
          have h3 := Hup.out.2.2
          rw [h2, Hnm.out] at h3; cases h3
        have Hjo := Lib.hid hjo
        have Hon := Lib.hid (And.intro hom hon)
        have Hmap := Lib.hid hmap
        have Hlk := Lib.hid (links_small HW.out Hg.out)
        clear hjo hom hon hmap
        by_cases hl1 : n.links = 1
        · have Hl1 := Lib.hid hl1
          clear hl1
          go_wp2_with (
            (at_delete
             refine wpList_delete_N Hmap.out Tryz.underlying68 Tryz.underlying9 s (by omega) rfl rfl rfl rfl ?_
             intro w3 hm3 hmod3
             have ht3 := tree_named (f := delN s) HT2.out HW.out.sorted Hup.out.1 Hup.out.2.1 hmod3 hm3
             have hs3 : Sorted (T.named o (delN s)) := upd_sorted (fun _ => rfl) HW.out.sorted
             have hg3 : (T.named o (delN s)).get j = some n := by rw [get_named, if_neg Hjo.out]; exact Hg.out
             have hB3 := ht3.node n ((get_iff hs3).1 hg3).1
             rw [Hnum.out] at hB3
             have HB3 := Lib.hid hB3
             have HT3 := Lib.hid ht3
             have HS3 := Lib.hid hs3
             have HG3 := Lib.hid hg3
             have HM3 : RowKit.Hid (Mod (fun b => role b ≠ .none) w w3) := Lib.hid ((HK2.out.mono (fun _ _ h => h.elim)).trans hmod3 (fun i hi e => by
               have hr := HT0.out.rnames up Hon.out.1 Hup.out.2.1
               rw [Hon.out.2] at hr
               rw [e, hr]; exact Role.noConfusion))
             have e2 : w3.cell? ⟨A j, 2, none⟩ = some (.int .i64 1) := by rw [← Hl1.out]; exact blk_cell hB3 2
             have e3 : w3.frozen? ⟨A j, 2, none⟩ = false := blk_free hB3 _ rfl
             clear hm3 hmod3 ht3 hs3 hg3 hB3 d4))
          have hmod4 : Mod (· = A j) w3 (w3.setCell ⟨A j, 2, none⟩ (.int .i64 0)) := (Mod.refl (fun x => x = A j) w3).setCell (p := ⟨A j, 2, none⟩) (.inl rfl) _
          have hB4 := blk_set HB3.out 2 (.int .i64 0)
          have ht4 := tree_upd (f := fun n => { n with links := 0 }) HT3.out HS3.out (fun _ => ⟨rfl, rfl, rfl⟩) HG3.out hmod4 hB4
          have hrA := HT0.out.rnode n ((get_iff HW.out.sorted).1 Hg.out).1
          rw [Hnum.out] at hrA
          have HM4 := Lib.hid (HM3.out.trans hmod4 (fun i hi e => by rw [e, hrA]; exact Role.noConfusion))
          generalize w3.setCell ⟨A j, 2, none⟩ (.int .i64 0) = w4 at *
          have f0 : w4.cell? ⟨p, 0, none⟩ = some (.map (some tb)) := blk_cell ht4.tree 0
          have f1 : w4.cell? ⟨A j, 0, none⟩ = some (.int .i64 j) := by rw [← Hnum.out]; rw [← Hnum.out] at hB4; exact blk_cell hB4 0
          have HT4 := Lib.hid ht4
          clear ht4 hB4 hmod4 hrA e2 e3
          refine wp_region_qd0 8 (by kernel_rfl) (by kernel_rfl) ?_
          simp only [List.take_succ_cons, List.take_zero, List.drop_succ_cons, List.drop_zero]
          repeat (quiet_step (fail))
          refine wpQuiet_nil ?_
          intro _ hw'
          obtain ⟨nq, rfl⟩ := hw'
          have HT4d := HT4.out.keep ((Mod.refl (fun _ => False) w4).drewN nq)
          refine wpList_delete_O HT4d.of Tryz.underlying62 Tryz.underlying3 j hnb rfl rfl rfl rfl ?_
          intro w5 hm5 hmod5
          have ht5 := tree_drop HT4d hmod5 hm5
          rw [drop_upd (f := fun n => { n with links := 0 }) (fun _ => rfl)] at ht5
          have HT5 := Lib.hid ht5
          have HM5 := Lib.hid ((HM4.out.drewN nq).trans hmod5 (fun i hi e => by rw [e, HT0.out.rof]; exact Role.noConfusion))
          clear ht5 hm5 hmod5 HT4d f0 f1
          go_wp2_with fail
          go_ret
          refine ⟨by rw [Hv.out]; rfl, ?_⟩
          rw [Hv.out, if_pos Hl1.out]
          exact ⟨A, M, role, HT5.out, fun _ hb => .inl hb, HM5.out⟩
        · have Hl1 := Lib.hid hl1
          have hq3 : (n.links - 1 == 0) = false := by rw [beq_eq_false_iff_ne]; omega
          have hlk := Hlk.out
          clear hl1
          go_wp2_with (
            (at_delete
             refine wpList_delete_N Hmap.out Tryz.underlying68 Tryz.underlying9 s (by omega) rfl rfl rfl rfl ?_
             intro w3 hm3 hmod3
             have ht3 := tree_named (f := delN s) HT2.out HW.out.sorted Hup.out.1 Hup.out.2.1 hmod3 hm3
             have hs3 : Sorted (T.named o (delN s)) := upd_sorted (fun _ => rfl) HW.out.sorted
             have hg3 : (T.named o (delN s)).get j = some n := by rw [get_named, if_neg Hjo.out]; exact Hg.out
             have hB3 := ht3.node n ((get_iff hs3).1 hg3).1
             rw [Hnum.out] at hB3
             have HB3 := Lib.hid hB3
             have HT3 := Lib.hid ht3
             have HS3 := Lib.hid hs3
             have HG3 := Lib.hid hg3
             have HM3 : RowKit.Hid (Mod (fun b => role b ≠ .none) w w3) := Lib.hid ((HK2.out.mono (fun _ _ h => h.elim)).trans hmod3 (fun i hi e => by
               have hr := HT0.out.rnames up Hon.out.1 Hup.out.2.1
               rw [Hon.out.2] at hr
               rw [e, hr]; exact Role.noConfusion))
             have e2 : w3.cell? ⟨A j, 2, none⟩ = some (.int .i64 n.links) := blk_cell hB3 2
             have e3 : w3.frozen? ⟨A j, 2, none⟩ = false := blk_free hB3 _ rfl
             clear hm3 hmod3 ht3 hs3 hg3 hB3 d4))
          go_ret
          refine ⟨by rw [Hv.out]; rfl, ?_⟩
          rw [Hv.out, if_neg Hl1.out]
          have hmod4 : Mod (· = A j) w3 (w3.setCell ⟨A j, 2, none⟩ (.int .i64 (n.links - 1))) := (Mod.refl (fun x => x = A j) w3).setCell (p := ⟨A j, 2, none⟩) (.inl rfl) _
          have hrA := HT0.out.rnode n ((get_iff HW.out.sorted).1 Hg.out).1
          rw [Hnum.out] at hrA
          exact ⟨A, M, role, tree_upd (f := fun n => { n with links := n.links - 1 }) HT3.out HS3.out (fun _ => ⟨rfl, rfl, rfl⟩) HG3.out hmod4 (blk_set HB3.out 2 _), fun _ hb => .inl hb, HM3.out.trans hmod4 (fun i hi e => by rw [e, hrA]; exact Role.noConfusion)⟩
      · have hl0 : ¬ ((n.names.length : Int) = 0) := by
          intro e
          exact hnm (List.length_eq_zero_iff.1 (by omega))
        have hl1 : (0 : Int) < n.names.length := by omega
        have Hv : RowKit.Hid (removesT T c = (T, 144)) := Lib.hid (by rw [removesT, if_neg Hroot.out, ha]; simp [hg, hnm])
        clear ha hg hfj hpo hfo hgo hdo hs hnum hm hnm
        go_wp2_with fail
        go_ret
        exact ⟨by rw [Hv.out]; rfl, by rw [Hv.out]; exact Turned.same HT0.out HK1.out⟩
end
end Go.Proofs.YthmpblccplphfaaGreatDoor
