/-
  The reference's tree of files: up, room.
  The reference's tree of files: how deep a node is.
  The reference's tree of files: write and cut.
  The reference's tree of files: a file has a name more.
  The reference's tree of files: a new file, a new directory.
  The reference's tree of files: a name moved.
-/
import Derived.Test.YthmpblccplphfaaGreatDoorRefName
import Derived.Test.YthmpblccplphfaaGreatDoorFilDo
namespace Go.Proofs.YthmpblccplphfaaGreatDoor
section
open Go.RowKit
section
variable {T : Tr} {d : Int → Nat} {off : Int → Int} {w : World} {t : Nat}
set_option maxRecDepth 100000 in
set_option maxHeartbeats 4000000 in
theorem rup_any (h : RefAt w t (toldT T)) (hw : WFo T d off) (path : List UInt8) (hp : path.length < 4294967281) {p : List (List UInt8)} {s : List UInt8} {o : Int} {n : Nd} (hpo : pathOf path = some (p ++ [s])) (hf : findT T 1 p = .ok o) (hg : T.get o = some n) :
    Calls Tryz.prog 50 #[.pointer (some ⟨t, 0, none⟩), .string ⟨path.toArray⟩] w fun e w' => e = .returned (.tuple #[.int .i64 o, .string ⟨s.toArray⟩]) ∧ Keep w w' := by
  have HR := Lib.hid h
  have HW := Lib.hid hw
  have Hp := Lib.hid hp
  have Hpo := Lib.hid hpo
  have Hf := Lib.hid hf
  have Hg := Lib.hid hg
  clear h hw hp hpo hf hg
  go_enter Tryz.func50, Tryz.ntmps50
  go_wp2_with fail
  refine (rpath_any path _ Hp.out).mono ?_
  rintro e w1 ⟨v, rfl, ho, hk⟩
  have hL : pathNames path = p ++ [s] := by rw [pathNames, Hpo.out]; rfl
  rw [hL] at ho
  have HRw := Lib.hid (row_strs ho)
  have HK := Lib.hid hk
  obtain ⟨a, cap, hv⟩ := row_shape HRw.out
  rw [srow_len] at hv
  obtain ⟨N, hN⟩ : ∃ N, p.length = N := ⟨_, rfl⟩
  have hv2 : v = .slice a (N + 1) cap := by rw [hv]; simp [hN]
  have hcap : N + 1 ≤ cap := by have h := own_cap (by rw [hv] at ho; exact ho); simp [hN] at h; omega
  subst hv2
  obtain ⟨hR0, b, o2, rfl, c0⟩ := row_init HRw.out hN
  have HR0 := Lib.hid hR0
  have h8 := (names_small Hpo.out).1
  have hN8 : N ≤ 7 := by simp at h8; omega
  have HR1 := Lib.hid (HR.out.keep HK.out)
  have HN := Lib.hid hN
  clear ho hk hL hv hR0 h8 hN
  go_wp2_with fail
  refine (rfind_any HR1.out HW.out _ p HR0.out (by have := HN.out; omega)).mono ?_
  rw [show rfindV T (findT T 1 p) = .tuple #[nodeV n.told, .int .i64 0] by rw [Hf.out]; unfold rfindV; simp only [Hg.out]]
  rintro e w2 ⟨rfl, hk2⟩
  have HK2 := Lib.hid (HK.out.keep hk2)
  have c1 : w2.cell? ⟨b, o2 + N, none⟩ = some (.string ⟨s.toArray⟩) := by rw [hk2.cell (p := ⟨b, o2 + N, none⟩) (lt_of_cell c0) id]; exact c0
  have hon : n.told.num = o := by
    obtain ⟨_, h⟩ := (get_iff HW.out.sorted).1 Hg.out
    exact h
  clear hk2 c0
  have HC1 := Lib.hid c1
  have HON := Lib.hid hon
  have HN1 := Lib.hid hcap
  clear c1 hon hcap
  go_wp2_with fail
  have hk3 : Keep w2 (w2.alloc (Obj.cells #[Value.int IntKind.i64 n.told.num, Value.bool n.told.dir, Value.int IntKind.i64 n.told.links, Value.string { data := n.told.data.toArray }] 41)) := (Mod.refl _ w2).alloc _
  have c0 : (w2.alloc (Obj.cells #[Value.int IntKind.i64 n.told.num, Value.bool n.told.dir, Value.int IntKind.i64 n.told.links, Value.string { data := n.told.data.toArray }] 41)).cell? ⟨w2.heap.size, 0, none⟩ = some (.int .i64 n.told.num) := by rw [World.cell?_alloc_new]; rfl
  have c1 : (w2.alloc (Obj.cells #[Value.int IntKind.i64 n.told.num, Value.bool n.told.dir, Value.int IntKind.i64 n.told.links, Value.string { data := n.told.data.toArray }] 41)).cell? ⟨b, o2 + N, none⟩ = some (.string ⟨s.toArray⟩) := by rw [hk3.cell (p := ⟨b, o2 + N, none⟩) (lt_of_cell HC1.out) id]; exact HC1.out
  have HK3 := Lib.hid (HK2.out.keep hk3)
  clear hk3
  generalize (w2.alloc (Obj.cells #[Value.int IntKind.i64 n.told.num, Value.bool n.told.dir, Value.int IntKind.i64 n.told.links, Value.string { data := n.told.data.toArray }] 41)) = w3 at *
  generalize w2.heap.size = ob at *
  have hcap := HN1.out
  have hwr : IntKind.i64.wrap (N : Int) = N := by rw [IntKind.wrap_i64]; omega
  have hq1 : (N : Int) < (N : Int) + 1 := by omega
  have hq2 : ¬ ((N : Int) < 0) := by omega
  have hq3 : N < N + 1 := by omega
  refine wp_region_qe0 (by kernel_rfl) (by kernel_rfl) ?_
  repeat (quiet_step (fail))
  refine wpQuiet_nil ?_
  intro _ hw'
  obtain ⟨nq, rfl⟩ := hw'
  go_wp2_with fail
  go_ret2
  rw [HON.out]
  exact ⟨rfl, HK3.out.drewN nq⟩
def rroomE (e : Int) : Value := .tuple #[nodeV ⟨0, false, 0, []⟩, .string ⟨#[]⟩, .int .i64 e]
def rroomV (T : Tr) : Except Int (Int × List UInt8) → Value
  | .error e => rroomE e
  | .ok (k, s) => .tuple #[nodeV (((T.get k).map Nd.told).getD ⟨0, false, 0, []⟩), .string ⟨s.toArray⟩, .int .i64 0]
set_option maxRecDepth 100000 in
set_option maxHeartbeats 4000000 in
theorem rroom_any (h : RefAt w t (toldT T)) (hw : WFo T d off) (path : List UInt8) (hp : path.length < 4294967281) :
    Calls Tryz.prog 82 #[.pointer (some ⟨t, 0, none⟩), .string ⟨path.toArray⟩] w fun e w' => e = .returned (rroomV T (roomT T path)) ∧ Keep w w' := by
  have HR := Lib.hid h
  have HW := Lib.hid hw
  have Hp := Lib.hid hp
  clear h hw hp
  go_enter Tryz.func82, Tryz.ntmps82
  go_wp2_with fail
  refine (rpath_any path _ Hp.out).mono ?_
  rintro e w1 ⟨v, rfl, ho, hk⟩
  have HZ : RowKit.Hid (World.blk w1 w.heap.size #[.int .i64 0, .bool false, .int .i64 0, .string ⟨#[]⟩] 41) := Lib.hid (blk_mod hk (blk_new _ _ _) id)
  have HK := Lib.hid (unalloc hk)
  have HR1 := Lib.hid (HR.out.keep HK.out)
  obtain ⟨M, hM⟩ : ∃ M, w.heap.size = M := ⟨_, rfl⟩
  have HM := Lib.hid hM
  rw [hM] at HZ
  rw [hM]
  have HRw := Lib.hid (row_strs ho)
  obtain ⟨a, cap, hv⟩ := row_shape HRw.out
  rw [srow_len] at hv
  have hcap : (pathNames path).length ≤ cap := by rw [hv] at ho; exact own_cap ho
  have HMb : RowKit.Hid (∀ b o m c, v = .slice (some ⟨b, o, none⟩) m c → M < b) := Lib.hid (fun b o m c e => by
    rw [e] at ho
    have h := own_base ho
    simp only [World.alloc] at h
    simp at h
    omega)
  clear hM hk ho
  obtain ⟨L, hL⟩ : ∃ L, pathNames path = L := ⟨_, rfl⟩
  obtain ⟨pe, hpe⟩ : ∃ pe, pathErr path = pe := ⟨_, rfl⟩
  rw [hpe]
  clear hpe
  rcases nil_or_snoc L with rfl | ⟨q, s, rfl⟩
  · rw [hL] at hv
    subst hv
    have Hv : RowKit.Hid (roomT T path = .error 142) := Lib.hid (by unfold roomT; rw [show (pathOf path).getD [] = [] from hL]; rfl)
    clear hL
    have y0 : w1.frozen? ⟨M, 0, none⟩ = false := blk_free HZ.out _ rfl
    have y1 : w1.frozen? ⟨M, 1, none⟩ = false := blk_free HZ.out _ rfl
    have y2 : w1.frozen? ⟨M, 2, none⟩ = false := blk_free HZ.out _ rfl
    have y3 : w1.frozen? ⟨M, 3, none⟩ = false := blk_free HZ.out _ rfl
    have z0 : w1.cell? ⟨M, 0, none⟩ = some (.int .i64 0) := blk_cell HZ.out 0
    have z1 : w1.cell? ⟨M, 1, none⟩ = some (.bool false) := blk_cell HZ.out 1
    have z2 : w1.cell? ⟨M, 2, none⟩ = some (.int .i64 0) := blk_cell HZ.out 2
    have z3 : w1.cell? ⟨M, 3, none⟩ = some (.string ⟨#[]⟩) := blk_cell HZ.out 3
    go_wp2_with fail
    obtain ⟨q0, q1, q2, q3, k2⟩ := put4 ⟨0, false, 0, []⟩ HZ.out HK.out HM.out
    have HK3 := Lib.hid k2
    simp only at q0 q1 q2 q3
    generalize (((w1.setCell ⟨M, 0, none⟩ (.int .i64 0)).setCell ⟨M, 1, none⟩ (.bool false)).setCell ⟨M, 2, none⟩ (.int .i64 0)).setCell ⟨M, 3, none⟩ (.string ⟨#[]⟩) = w3 at *
    exact bodyPost_ret (v := rroomE 142) (by simp [rroomE, nodeV, results, Tryz.results82, go_sem, q0, q1, q2, q3]) rfl ⟨by rw [Hv.out]; rfl, HK3.out⟩
  · rw [hL] at hv HRw hcap
    obtain ⟨N, hN⟩ : ∃ N, q.length = N := ⟨_, rfl⟩
    have hv2 : v = .slice a (N + 1) cap := by rw [hv]; simp [hN]
    subst hv2
    obtain ⟨hR0, b, o, rfl, c0⟩ := row_init HRw.out hN
    have HR0 := Lib.hid hR0
    have hpo : pathOf path = some (q ++ [s]) := by
      cases h : pathOf path with
      | none => rw [pathNames, h] at hL; simp at hL
      | some l => rw [pathNames, h] at hL; exact congrArg some hL
    have hcp : N + 1 ≤ cap := by simp [hN] at hcap; omega
    clear hcap
    have Hl := Lib.hid (names_small hpo)
    have Hv : RowKit.Hid (roomT T path = match findT T 1 q with
        | .error e => .error e
        | .ok k => match T.get k with
          | none => .error 141
          | some up => if up.dir = false then .error 143 else if (getN s up.names).isSome = true then .error 142 else if 60 ≤ up.names.length then .error 145 else .ok (k, s)) := Lib.hid (by
      unfold roomT
      rw [hpo]
      simp only [Option.getD_some, List.dropLast_concat, List.getLastD_concat]
      rw [if_neg (by simp)]
      cases findT T 1 q with
      | error e => rfl
      | ok k => cases T.get k <;> rfl)
    have Hq : RowKit.Hid (q.length = N) := Lib.hid hN
    have hN8 : N ≤ 7 := by have := Hl.out.1; simp at this; omega
    have Hfo : RowKit.Hid (∀ k, findT T 1 q = .ok k → ∃ n, T.get k = some n) := Lib.hid (fun k hk => by
      obtain ⟨r, hr, h1, _⟩ := HW.out.root
      obtain ⟨n, hn, hk⟩ := (find_ok HW.out q 1 k ⟨r, hr, h1⟩ hk).1
      exact ⟨n, (get_iff HW.out.sorted).2 ⟨hn, hk⟩⟩)
    have HC0 := Lib.hid c0
    have hMb : M < b := HMb.out _ _ _ _ rfl
    clear hL hv hR0 hpo hN c0
    go_wp2_with fail
    refine (rfind_any HR1.out HW.out _ q HR0.out (by have := Hq.out; omega)).mono ?_
    rcases rfind_cases T (findT T 1 q) Hfo.out with ⟨e, hf, hfv⟩ | ⟨k, up, hf, hup, hfv⟩
    · rw [hf] at Hv
      have hne : e = 141 ∨ e = 143 := find_err _ _ _ hf
      have hq : (e == 0) = false := by rw [beq_eq_false_iff_ne]; omega
      rw [hfv]
      rintro e1 w2 ⟨rfl, hk2⟩
      have HZ2 := Lib.hid (blk_mod hk2 HZ.out id)
      have HK2 := Lib.hid (HK.out.keep hk2)
      clear hk2 hf hfv hne
      have y0 : World.frozen? (w2.alloc (.cells #[.int .i64 0, .bool false, .int .i64 0, .string ⟨#[]⟩] 41)) ⟨M, 0, none⟩ = false := blk_free (blk_alloc HZ2.out _) _ rfl
      have z0 : World.cell? (w2.alloc (.cells #[.int .i64 0, .bool false, .int .i64 0, .string ⟨#[]⟩] 41)) ⟨M, 0, none⟩ = some (.int .i64 0) := blk_cell (blk_alloc HZ2.out _) 0
      have y1 : World.frozen? (w2.alloc (.cells #[.int .i64 0, .bool false, .int .i64 0, .string ⟨#[]⟩] 41)) ⟨M, 1, none⟩ = false := blk_free (blk_alloc HZ2.out _) _ rfl
      have z1 : World.cell? (w2.alloc (.cells #[.int .i64 0, .bool false, .int .i64 0, .string ⟨#[]⟩] 41)) ⟨M, 1, none⟩ = some (.bool false) := blk_cell (blk_alloc HZ2.out _) 1
      have y2 : World.frozen? (w2.alloc (.cells #[.int .i64 0, .bool false, .int .i64 0, .string ⟨#[]⟩] 41)) ⟨M, 2, none⟩ = false := blk_free (blk_alloc HZ2.out _) _ rfl
      have z2 : World.cell? (w2.alloc (.cells #[.int .i64 0, .bool false, .int .i64 0, .string ⟨#[]⟩] 41)) ⟨M, 2, none⟩ = some (.int .i64 0) := blk_cell (blk_alloc HZ2.out _) 2
      have y3 : World.frozen? (w2.alloc (.cells #[.int .i64 0, .bool false, .int .i64 0, .string ⟨#[]⟩] 41)) ⟨M, 3, none⟩ = false := blk_free (blk_alloc HZ2.out _) _ rfl
      have z3 : World.cell? (w2.alloc (.cells #[.int .i64 0, .bool false, .int .i64 0, .string ⟨#[]⟩] 41)) ⟨M, 3, none⟩ = some (.string ⟨#[]⟩) := blk_cell (blk_alloc HZ2.out _) 3
      go_wp2_with fail
      obtain ⟨q0, q1, q2, q3, k2⟩ := put4 ⟨0, false, 0, []⟩ (blk_alloc HZ2.out _) (HK2.out.alloc _) HM.out
      have HK9 := Lib.hid k2
      simp only at q0 q1 q2 q3
      generalize (((World.setCell (w2.alloc (.cells #[.int .i64 0, .bool false, .int .i64 0, .string ⟨#[]⟩] 41)) ⟨M, 0, none⟩ (.int .i64 0)).setCell ⟨M, 1, none⟩ (.bool false)).setCell ⟨M, 2, none⟩ (.int .i64 0)).setCell ⟨M, 3, none⟩ (.string ⟨#[]⟩) = w9 at *
      exact bodyPost_ret (v := rroomE e) (by simp [rroomE, nodeV, results, Tryz.results82, go_sem, q0, q1, q2, q3]) rfl ⟨by rw [Hv.out]; rfl, HK9.out⟩
    · rw [hf] at Hv
      rw [hfv]
      rintro e1 w2 ⟨rfl, hk2⟩
      have HZ2 := Lib.hid (blk_mod hk2 HZ.out id)
      have HK2 := Lib.hid (HK.out.keep hk2)
      have HR2 := Lib.hid (HR1.out.keep hk2)
      have HRw2 := Lib.hid (row_keep HRw.out hk2)
      have HC2 : RowKit.Hid (w2.cell? ⟨b, o + N, none⟩ = some (.string ⟨s.toArray⟩)) := Lib.hid (by rw [hk2.cell (p := ⟨b, o + N, none⟩) (lt_of_cell HC0.out) id]; exact HC0.out)
      clear hk2 HZ HRw HR0 HK HC0 HR1
      cases hd : up.dir with
      | false =>
        rw [show up.told = ⟨up.num, false, up.links, up.data⟩ by unfold Nd.told; simp [hd]]
        have Hv : RowKit.Hid (roomT T path = .error 143) := Lib.hid (by rw [Hv.out]; simp only [hup]; rw [if_pos hd])
        clear hf hup hfv hd
        have y0 : World.frozen? (w2.alloc (.cells #[.int .i64 up.num, .bool false, .int .i64 up.links, .string ⟨List.toArray up.data⟩] 41)) ⟨M, 0, none⟩ = false := blk_free (blk_alloc HZ2.out _) _ rfl
        have z0 : World.cell? (w2.alloc (.cells #[.int .i64 up.num, .bool false, .int .i64 up.links, .string ⟨List.toArray up.data⟩] 41)) ⟨M, 0, none⟩ = some (.int .i64 0) := blk_cell (blk_alloc HZ2.out _) 0
        have y1 : World.frozen? (w2.alloc (.cells #[.int .i64 up.num, .bool false, .int .i64 up.links, .string ⟨List.toArray up.data⟩] 41)) ⟨M, 1, none⟩ = false := blk_free (blk_alloc HZ2.out _) _ rfl
        have z1 : World.cell? (w2.alloc (.cells #[.int .i64 up.num, .bool false, .int .i64 up.links, .string ⟨List.toArray up.data⟩] 41)) ⟨M, 1, none⟩ = some (.bool false) := blk_cell (blk_alloc HZ2.out _) 1
        have y2 : World.frozen? (w2.alloc (.cells #[.int .i64 up.num, .bool false, .int .i64 up.links, .string ⟨List.toArray up.data⟩] 41)) ⟨M, 2, none⟩ = false := blk_free (blk_alloc HZ2.out _) _ rfl
        have z2 : World.cell? (w2.alloc (.cells #[.int .i64 up.num, .bool false, .int .i64 up.links, .string ⟨List.toArray up.data⟩] 41)) ⟨M, 2, none⟩ = some (.int .i64 0) := blk_cell (blk_alloc HZ2.out _) 2
        have y3 : World.frozen? (w2.alloc (.cells #[.int .i64 up.num, .bool false, .int .i64 up.links, .string ⟨List.toArray up.data⟩] 41)) ⟨M, 3, none⟩ = false := blk_free (blk_alloc HZ2.out _) _ rfl
        have z3 : World.cell? (w2.alloc (.cells #[.int .i64 up.num, .bool false, .int .i64 up.links, .string ⟨List.toArray up.data⟩] 41)) ⟨M, 3, none⟩ = some (.string ⟨#[]⟩) := blk_cell (blk_alloc HZ2.out _) 3
        go_wp2_with fail
        obtain ⟨q0, q1, q2, q3, k2⟩ := put4 ⟨0, false, 0, []⟩ (blk_alloc HZ2.out _) (HK2.out.alloc _) HM.out
        have HK9 := Lib.hid k2
        simp only at q0 q1 q2 q3
        generalize (((World.setCell (w2.alloc (.cells #[.int .i64 up.num, .bool false, .int .i64 up.links, .string ⟨List.toArray up.data⟩] 41)) ⟨M, 0, none⟩ (.int .i64 0)).setCell ⟨M, 1, none⟩ (.bool false)).setCell ⟨M, 2, none⟩ (.int .i64 0)).setCell ⟨M, 3, none⟩ (.string ⟨#[]⟩) = w9 at *
        exact bodyPost_ret (v := rroomE 143) (by simp [rroomE, nodeV, results, Tryz.results82, go_sem, q0, q1, q2, q3]) rfl ⟨by rw [Hv.out]; rfl, HK9.out⟩
      | true =>
        have Ht : RowKit.Hid (up.told = ⟨up.num, true, up.links, encE up.names⟩) := Lib.hid (by unfold Nd.told; simp [hd])
        rw [Ht.out]
        have Hv2 : RowKit.Hid (roomT T path = if (getN s up.names).isSome = true then .error 142 else if 60 ≤ up.names.length then .error 145 else .ok (k, s)) := Lib.hid (by rw [Hv.out]; simp only [hup]; rw [if_neg (by rw [hd]; simp)])
        have Hf2 : RowKit.Hid (findT T 1 (q ++ [s]) = match getN s up.names with | none => .error 141 | some j => .ok j) := Lib.hid (by
          rw [find_append, hf]
          simp only [find_cons, hup, hd, if_true]
          cases getN s up.names <;> rfl)
        have Hup := Lib.hid hup
        have Hd := Lib.hid hd
        have hk3 : Keep w2 (w2.alloc (.cells #[.int .i64 up.num, .bool true, .int .i64 up.links, .string ⟨List.toArray (encE up.names)⟩] 41)) := (Mod.refl _ w2).alloc _
        have HB3 : RowKit.Hid (World.blk (w2.alloc (.cells #[.int .i64 up.num, .bool true, .int .i64 up.links, .string ⟨List.toArray (encE up.names)⟩] 41)) w2.heap.size #[.int .i64 up.num, .bool true, .int .i64 up.links, .string ⟨List.toArray (encE up.names)⟩] 41) := Lib.hid (blk_new _ _ _)
        clear hf hup hfv hd Hv
        have HZ3 := Lib.hid (blk_mod hk3 HZ2.out id)
        have HK3 := Lib.hid (HK2.out.keep hk3)
        have HR3 := Lib.hid (HR2.out.keep hk3)
        have HRw3 := Lib.hid (row_keep HRw2.out hk3)
        have HC3 : RowKit.Hid (World.cell? (w2.alloc (.cells #[.int .i64 up.num, .bool true, .int .i64 up.links, .string ⟨List.toArray (encE up.names)⟩] 41)) ⟨b, o + N, none⟩ = some (.string ⟨s.toArray⟩)) := Lib.hid (by rw [hk3.cell (p := ⟨b, o + N, none⟩) (lt_of_cell HC2.out) id]; exact HC2.out)
        clear hk3 HZ2 HK2 HR2 HRw2 HC2
        go_wp2_with fail
        generalize (w2.alloc (.cells #[.int .i64 up.num, .bool true, .int .i64 up.links, .string ⟨List.toArray (encE up.names)⟩] 41)) = w3 at *
        generalize w2.heap.size = ob at *
        refine (rfind_any HR3.out HW.out _ (q ++ [s]) HRw3.out (by have := Hl.out.1; omega)).mono ?_
        have h60 : up.names.length ≤ 60 := (HW.out.names up ((get_iff HW.out.sorted).1 Hup.out).1).1
        have Hok : RowKit.Hid (entsOk up.names = true) := Lib.hid (HW.out.ents ((get_iff HW.out.sorted).1 Hup.out).1)
        cases hg : getN s up.names with
        | some j =>
          have hfj : findT T 1 (q ++ [s]) = .ok j := by rw [Hf2.out, hg]
          obtain ⟨nj, hnj⟩ : ∃ nj, T.get j = some nj := by
            obtain ⟨r, hr, h1, _⟩ := HW.out.root
            obtain ⟨n, hn, hk⟩ := (find_ok HW.out _ 1 j ⟨r, hr, h1⟩ hfj).1
            exact ⟨n, (get_iff HW.out.sorted).2 ⟨hn, hk⟩⟩
          have Hv : RowKit.Hid (roomT T path = .error 142) := Lib.hid (by rw [Hv2.out, hg]; rfl)
          rw [show rfindV T (findT T 1 (q ++ [s])) = .tuple #[nodeV nj.told, .int .i64 0] by rw [hfj]; unfold rfindV; simp only [hnj]]
          rintro e1 w4 ⟨rfl, hk4⟩
          have HZ4 := Lib.hid (blk_mod hk4 HZ3.out id)
          have HK4 := Lib.hid (HK3.out.keep hk4)
          clear hk4 hfj hnj hg h60
          have y0 : World.frozen? w4 ⟨M, 0, none⟩ = false := blk_free HZ4.out _ rfl
          have z0 : World.cell? w4 ⟨M, 0, none⟩ = some (.int .i64 0) := blk_cell HZ4.out 0
          have y1 : World.frozen? w4 ⟨M, 1, none⟩ = false := blk_free HZ4.out _ rfl
          have z1 : World.cell? w4 ⟨M, 1, none⟩ = some (.bool false) := blk_cell HZ4.out 1
          have y2 : World.frozen? w4 ⟨M, 2, none⟩ = false := blk_free HZ4.out _ rfl
          have z2 : World.cell? w4 ⟨M, 2, none⟩ = some (.int .i64 0) := blk_cell HZ4.out 2
          have y3 : World.frozen? w4 ⟨M, 3, none⟩ = false := blk_free HZ4.out _ rfl
          have z3 : World.cell? w4 ⟨M, 3, none⟩ = some (.string ⟨#[]⟩) := blk_cell HZ4.out 3
          go_wp2_with fail
          obtain ⟨q0, q1, q2, q3, k2⟩ := put4 ⟨0, false, 0, []⟩ HZ4.out HK4.out HM.out
          have HK9 := Lib.hid k2
          simp only at q0 q1 q2 q3
          generalize (((World.setCell w4 ⟨M, 0, none⟩ (.int .i64 0)).setCell ⟨M, 1, none⟩ (.bool false)).setCell ⟨M, 2, none⟩ (.int .i64 0)).setCell ⟨M, 3, none⟩ (.string ⟨#[]⟩) = w9 at *
          exact bodyPost_ret (v := rroomE 142) (by simp [rroomE, nodeV, results, Tryz.results82, go_sem, q0, q1, q2, q3]) rfl ⟨by rw [Hv.out]; rfl, HK9.out⟩
        | none =>
          rw [show rfindV T (findT T 1 (q ++ [s])) = .tuple #[nodeV ⟨0, false, 0, []⟩, .int .i64 141] by rw [Hf2.out, hg]; rfl]
          have Hv3 : RowKit.Hid (roomT T path = if 60 ≤ up.names.length then .error 145 else .ok (k, s)) := Lib.hid (by rw [Hv2.out, hg]; rfl)
          rintro e1 w4 ⟨rfl, hk4⟩
          have HZ4 := Lib.hid (blk_mod hk4 HZ3.out id)
          have HK4 := Lib.hid (HK3.out.keep hk4)
          have HB4 := Lib.hid (blk_mod hk4 HB3.out id)
          have HC4 : RowKit.Hid (w4.cell? ⟨b, o + N, none⟩ = some (.string ⟨s.toArray⟩)) := Lib.hid (by rw [hk4.cell (p := ⟨b, o + N, none⟩) (lt_of_cell HC3.out) id]; exact HC3.out)
          clear hk4 hg HZ3 HK3 HB3 HC3 HR3 HRw3
          have x0 : w4.cell? ⟨ob, 0, none⟩ = some (.int .i64 up.num) := blk_cell HB4.out 0
          have x1 : w4.cell? ⟨ob, 1, none⟩ = some (.bool true) := blk_cell HB4.out 1
          have x2 : w4.cell? ⟨ob, 2, none⟩ = some (.int .i64 up.links) := blk_cell HB4.out 2
          have x3 : w4.cell? ⟨ob, 3, none⟩ = some (.string ⟨(encE up.names).toArray⟩) := blk_cell HB4.out 3
          go_wp2_with fail
          refine (rents_any up Hd.out Hok.out _ _ w4).mono ?_
          rintro e w5 ⟨ev, rfl, ho, hk5⟩
          obtain ⟨ea, ecap, rfl, _⟩ := rowF_own entC_len ho
          have HZ5 := Lib.hid (blk_mod hk5 HZ4.out id)
          have HK5 := Lib.hid (HK4.out.keep hk5)
          have HB5 := Lib.hid (blk_mod hk5 HB4.out id)
          have HC5 : RowKit.Hid (w5.cell? ⟨b, o + N, none⟩ = some (.string ⟨s.toArray⟩)) := Lib.hid (by rw [hk5.cell (p := ⟨b, o + N, none⟩) (lt_of_cell HC4.out) id]; exact HC4.out)
          clear ho hk5 x0 x1 x2 x3 HZ4 HK4 HB4 HC4
          by_cases hb : 60 ≤ up.names.length
          · have Hv : RowKit.Hid (roomT T path = .error 145) := Lib.hid (by rw [Hv3.out, if_pos hb])
            have hb2 : (60 : Int) ≤ up.names.length := by omega
            clear hb
            have y0 : World.frozen? w5 ⟨M, 0, none⟩ = false := blk_free HZ5.out _ rfl
            have z0 : World.cell? w5 ⟨M, 0, none⟩ = some (.int .i64 0) := blk_cell HZ5.out 0
            have y1 : World.frozen? w5 ⟨M, 1, none⟩ = false := blk_free HZ5.out _ rfl
            have z1 : World.cell? w5 ⟨M, 1, none⟩ = some (.bool false) := blk_cell HZ5.out 1
            have y2 : World.frozen? w5 ⟨M, 2, none⟩ = false := blk_free HZ5.out _ rfl
            have z2 : World.cell? w5 ⟨M, 2, none⟩ = some (.int .i64 0) := blk_cell HZ5.out 2
            have y3 : World.frozen? w5 ⟨M, 3, none⟩ = false := blk_free HZ5.out _ rfl
            have z3 : World.cell? w5 ⟨M, 3, none⟩ = some (.string ⟨#[]⟩) := blk_cell HZ5.out 3
            go_wp2_with fail
            obtain ⟨q0, q1, q2, q3, k2⟩ := put4 ⟨0, false, 0, []⟩ HZ5.out HK5.out HM.out
            have HK9 := Lib.hid k2
            simp only at q0 q1 q2 q3
            generalize (((World.setCell w5 ⟨M, 0, none⟩ (.int .i64 0)).setCell ⟨M, 1, none⟩ (.bool false)).setCell ⟨M, 2, none⟩ (.int .i64 0)).setCell ⟨M, 3, none⟩ (.string ⟨#[]⟩) = w9 at *
            exact bodyPost_ret (v := rroomE 145) (by simp [rroomE, nodeV, results, Tryz.results82, go_sem, q0, q1, q2, q3]) rfl ⟨by rw [Hv.out]; rfl, HK9.out⟩
          · have Hv : RowKit.Hid (roomT T path = .ok (k, s)) := Lib.hid (by rw [Hv3.out, if_neg hb])
            have hb2 : ¬ (60 : Int) ≤ up.names.length := by omega
            clear hb
            have x0 : w5.cell? ⟨ob, 0, none⟩ = some (.int .i64 up.num) := blk_cell HB5.out 0
            have x1 : w5.cell? ⟨ob, 1, none⟩ = some (.bool true) := blk_cell HB5.out 1
            have x2 : w5.cell? ⟨ob, 2, none⟩ = some (.int .i64 up.links) := blk_cell HB5.out 2
            have x3 : w5.cell? ⟨ob, 3, none⟩ = some (.string ⟨(encE up.names).toArray⟩) := blk_cell HB5.out 3
            have c5 := HC5.out
            have y0 : World.frozen? w5 ⟨M, 0, none⟩ = false := blk_free HZ5.out _ rfl
            have z0 : World.cell? w5 ⟨M, 0, none⟩ = some (.int .i64 0) := blk_cell HZ5.out 0
            have y1 : World.frozen? w5 ⟨M, 1, none⟩ = false := blk_free HZ5.out _ rfl
            have z1 : World.cell? w5 ⟨M, 1, none⟩ = some (.bool false) := blk_cell HZ5.out 1
            have y2 : World.frozen? w5 ⟨M, 2, none⟩ = false := blk_free HZ5.out _ rfl
            have z2 : World.cell? w5 ⟨M, 2, none⟩ = some (.int .i64 0) := blk_cell HZ5.out 2
            have y3 : World.frozen? w5 ⟨M, 3, none⟩ = false := blk_free HZ5.out _ rfl
            have z3 : World.cell? w5 ⟨M, 3, none⟩ = some (.string ⟨#[]⟩) := blk_cell HZ5.out 3
            have hwr : IntKind.i64.wrap (N : Int) = N := by rw [IntKind.wrap_i64]; omega
            have hq1 : (N : Int) < (N : Int) + 1 := by omega
            have hq2 : ¬ ((N : Int) < 0) := by omega
            have hq3 : N < N + 1 := by omega
            go_wp2_with fail
            have hMb1 : ¬ b = M := by omega
            have hMb2 : ¬ M = b := by omega
            go_region
            obtain ⟨q0, q1, q2, q3, k2⟩ := put4 ⟨up.num, true, up.links, (encE up.names)⟩ HZ5.out HK5.out HM.out
            have HK9 := Lib.hid k2
            simp only at q0 q1 q2 q3
            generalize (((World.setCell w5 ⟨M, 0, none⟩ (.int .i64 up.num)).setCell ⟨M, 1, none⟩ (.bool true)).setCell ⟨M, 2, none⟩ (.int .i64 up.links)).setCell ⟨M, 3, none⟩ (.string ⟨(encE up.names).toArray⟩) = w9 at *
            have Hfin : RowKit.Hid (rroomV T (roomT T path) = .tuple #[nodeV ⟨up.num, true, up.links, encE up.names⟩, .string ⟨s.toArray⟩, .int .i64 0]) := Lib.hid (by rw [Hv.out]; simp only [rroomV, Hup.out, Option.map_some, Option.getD_some, Ht.out])
            have HK10 := Lib.hid (HK9.out.drew)
            have p0 : (World.drew w9).cell? ⟨M, 0, none⟩ = some (.int .i64 up.num) := q0
            have p1 : (World.drew w9).cell? ⟨M, 1, none⟩ = some (.bool true) := q1
            have p2 : (World.drew w9).cell? ⟨M, 2, none⟩ = some (.int .i64 up.links) := q2
            have p3 : (World.drew w9).cell? ⟨M, 3, none⟩ = some (.string ⟨(encE up.names).toArray⟩) := q3
            clear x0 x1 x2 x3 c5 y0 y1 y2 y3 z0 z1 z2 z3 HZ5 HK5 HB5 HC5 q0 q1 q2 q3
            generalize World.drew w9 = w10 at *
            go_wp2_with fail
            exact bodyPost_ret (v := .tuple #[nodeV ⟨up.num, true, up.links, encE up.names⟩, .string ⟨s.toArray⟩, .int .i64 0]) (by simp [nodeV, results, Tryz.results82, go_sem, p0, p1, p2, p3]) rfl ⟨by rw [Hfin.out], HK10.out⟩
end
end
section
open Go.RowKit
section
variable {T : Tr} {d : Int → Nat} {off : Int → Int} {w : World} {t : Nat}
set_option maxRecDepth 100000 in
set_option maxHeartbeats 4000000 in
theorem rdeep_any (hw : WFo T d off) : ∀ (f : Nat) (k : Int) (n : Nd) (w : World), RefAt w t (toldT T) → T.get k = some n → 1 ≤ f → f ≤ 100 → (n.dir = true → 9 ≤ d k + f) →
    Calls Tryz.prog 83 #[.pointer (some ⟨t, 0, none⟩), nodeV n.told] w fun e w' => e = .returned (.int .i64 (deepT T f k : Int)) ∧ Keep w w' := by
  have HW := Lib.hid hw
  clear hw
  intro f
  induction f with
  | zero => intro k n w _ _ h1 _ _; omega
  | succ f ih =>
    intro k n w h hg h1 h100 hd9
    have HR := Lib.hid h
    have Hg := Lib.hid hg
    have IH := Lib.hid ih
    obtain ⟨hm, hk⟩ := (get_iff HW.out.sorted).1 hg
    have hdv : deepT T (f + 1) k = n.names.foldl (fun m p => max m (1 + deepT T f p.2)) 0 := by
      show (match T.get k with | none => 0 | some n => _) = _
      rw [hg]
    have Hm := Lib.hid (And.intro hm hk)
    have Hdv := Lib.hid hdv
    have H9 := Lib.hid hd9
    clear h hg ih h1 hm hk hdv hd9
    cases hd : n.dir with
    | false =>
      rw [show n.told = ⟨n.num, false, n.links, n.data⟩ by unfold Nd.told; simp [hd]]
      have hnm := (HW.out.file n Hm.out.1 hd).1
      have Hv : RowKit.Hid (deepT T (f + 1) k = 0) := Lib.hid (by rw [Hdv.out, hnm]; rfl)
      clear hnm hd
      go_enter Tryz.func83, Tryz.ntmps83
      go_wp2_with fail
      go_ret
      rw [Hv.out]
      exact ⟨rfl, (Mod.refl _ w).alloc _⟩
    | true =>
      rw [show n.told = ⟨n.num, true, n.links, encE n.names⟩ by unfold Nd.told; simp [hd]]
      have Hd := Lib.hid hd
      have Hok : RowKit.Hid (entsOk n.names = true) := Lib.hid (HW.out.ents Hm.out.1)
      have h60 : n.names.length ≤ 60 := (HW.out.names n Hm.out.1).1
      have h60i : (n.names.length : Int) ≤ 60 := by omega
      clear hd
      go_enter Tryz.func83, Tryz.ntmps83
      go_wp2_with fail
      refine (rents_any n Hd.out Hok.out _ _ _).mono ?_
      rintro e w1 ⟨ev, rfl, ho, hk1⟩
      have hrow := rowF_own entC_len ho
      obtain ⟨ea, ecap, rfl, hex⟩ := hrow
      have HE := Lib.hid hex
      have HK1 := Lib.hid (unalloc hk1)
      have HR1 := Lib.hid (HR.out.keep HK1.out)
      clear ho hk1 hex
      go_wp2_with fail
      go_loopw [5, 7] (fun v iv wr => ∃ i m : Nat, i ≤ n.names.length ∧ v = .int .i64 (m : Int) ∧ iv = .int .i64 (i : Int) ∧ Keep w1 wr ∧ RowKit.Hid (m ≤ 101 ∧ (n.names.take i).foldl (fun m p => max m (1 + deepT T f p.2)) 0 = m)) (fun _ iv _ => n.names.length - (intOf iv).toNat)
      case atStart => exact ⟨0, 0, by omega, rfl, rfl, Mod.refl _ _, Lib.hid ⟨by omega, rfl⟩⟩
      case round =>
        obtain ⟨i, m, hi, rfl, rfl, hK, Hq⟩ := hrel
        have HK := Lib.hid hK
        clear hK
        by_cases hlt : i < n.names.length
        · obtain ⟨y, hy⟩ : ∃ y, n.names[i]? = some y := ⟨_, List.getElem?_eq_getElem hlt⟩
          obtain ⟨eb, eo, rfl, hce⟩ := HE.out i y hy
          have Hin := Lib.hid (List.mem_of_getElem? hy)
          have Hy := Lib.hid hy
          obtain ⟨_, nc, hnc, hcn⟩ := HW.out.closed n Hm.out.1 _ Hin.out
          have Hgc := Lib.hid ((get_iff HW.out.sorted).2 ⟨hnc, hcn⟩)
          have h7 := HW.out.deep n Hm.out.1 (List.ne_nil_of_mem Hin.out)
          rw [Hm.out.2] at h7
          have h9 := H9.out Hd.out
          have Hfu : RowKit.Hid (1 ≤ f ∧ f ≤ 100 ∧ (nc.dir = true → 9 ≤ d y.2 + f)) := Lib.hid ⟨by omega, by omega, fun hcd => by
            have := HW.out.depth n Hm.out.1 _ Hin.out nc hnc hcn hcd
            rw [Hm.out.2] at this
            omega⟩
          have HRr := Lib.hid (HR1.out.keep HK.out)
          have hTl : T.length ≤ 60 := HW.out.many
          obtain ⟨mi, hmi, hidx⟩ := idx_some HW.out.sorted Hgc.out
          have Hidx := Lib.hid hidx
          have hmT := (List.getElem?_eq_some_iff.1 hmi).1
          have hmi1 : (mi : Int) < T.length := by omega
          obtain ⟨a, tcap, hb, hx⟩ := HRr.out.row
          rw [told_len] at hb
          have HB := Lib.hid hb
          obtain ⟨lb, lo, rfl, hne, hc⟩ := hx mi _ (told_at hmi)
          have HC := Lib.hid hc
          have e1 : wr.cell? ⟨eb, eo + i * 2 + 1, none⟩ = some (.int .i64 y.2) := by have h := hce 1 _ rfl; rw [HK.out.cell (p := ⟨eb, eo + i * 2 + 1, none⟩) (lt_of_cell h) id]; exact h
          have t0 : wr.cell? ⟨t, 0, none⟩ = some (.slice (some ⟨lb, lo, none⟩) T.length tcap) := blk_cell hb 0
          have hii : (i : Int) < n.names.length := by omega
          clear hce hy hnc hcn h7 h9 hidx hmi hb hx hc hne
          go_wp2_with fail
          go_region_with (first
            | (go_at_call 62
               refine (rnode_any (l := toldT T) (HRr.out.keep (by first | exact (Mod.refl _ wr).drew | exact Mod.refl _ _)) (by rw [told_len]; omega) y.2).mono ?_
               rw [Hidx.out]
               rintro e w3 ⟨rfl, hk3⟩
               have HK3 : RowKit.Hid (Keep wr w3) := Lib.hid (by first | exact ((Mod.refl _ wr).drew).keep hk3 | exact hk3)
               clear hk3
               have u03 : World.cell? w3 ⟨lb, lo + mi * 4, none⟩ = some (.int .i64 nc.told.num) := by have h := HC.out 0 _ rfl; rw [HK3.out.cell (p := ⟨lb, lo + mi * 4, none⟩) (lt_of_cell h) id]; exact h
               have u13 : World.cell? w3 ⟨lb, lo + mi * 4 + 1, none⟩ = some (.bool nc.told.dir) := by have h := HC.out 1 _ rfl; rw [HK3.out.cell (p := ⟨lb, lo + mi * 4 + 1, none⟩) (lt_of_cell h) id]; exact h
               have u23 : World.cell? w3 ⟨lb, lo + mi * 4 + 2, none⟩ = some (.int .i64 nc.told.links) := by have h := HC.out 2 _ rfl; rw [HK3.out.cell (p := ⟨lb, lo + mi * 4 + 2, none⟩) (lt_of_cell h) id]; exact h
               have u33 : World.cell? w3 ⟨lb, lo + mi * 4 + 3, none⟩ = some (.string ⟨nc.told.data.toArray⟩) := by have h := HC.out 3 _ rfl; rw [HK3.out.cell (p := ⟨lb, lo + mi * 4 + 3, none⟩) (lt_of_cell h) id]; exact h
               have t03 : World.cell? w3 ⟨t, 0, none⟩ = some (.slice (some ⟨lb, lo, none⟩) T.length tcap) := blk_cell (blk_mod HK3.out HB.out id) 0)
            | (go_at_call 83
               refine (IH.out y.2 nc w3 (HRr.out.keep HK3.out) Hgc.out Hfu.out.1 Hfu.out.2.1 Hfu.out.2.2).mono ?_
               rintro e w4 ⟨rfl, hk4⟩
               have HK4 : RowKit.Hid (Keep wr w4) := Lib.hid (HK3.out.keep hk4)
               clear hk4
               have u04 : World.cell? w4 ⟨lb, lo + mi * 4, none⟩ = some (.int .i64 nc.told.num) := by have h := HC.out 0 _ rfl; rw [HK4.out.cell (p := ⟨lb, lo + mi * 4, none⟩) (lt_of_cell h) id]; exact h
               have u14 : World.cell? w4 ⟨lb, lo + mi * 4 + 1, none⟩ = some (.bool nc.told.dir) := by have h := HC.out 1 _ rfl; rw [HK4.out.cell (p := ⟨lb, lo + mi * 4 + 1, none⟩) (lt_of_cell h) id]; exact h
               have u24 : World.cell? w4 ⟨lb, lo + mi * 4 + 2, none⟩ = some (.int .i64 nc.told.links) := by have h := HC.out 2 _ rfl; rw [HK4.out.cell (p := ⟨lb, lo + mi * 4 + 2, none⟩) (lt_of_cell h) id]; exact h
               have u34 : World.cell? w4 ⟨lb, lo + mi * 4 + 3, none⟩ = some (.string ⟨nc.told.data.toArray⟩) := by have h := HC.out 3 _ rfl; rw [HK4.out.cell (p := ⟨lb, lo + mi * 4 + 3, none⟩) (lt_of_cell h) id]; exact h
               have t04 : World.cell? w4 ⟨t, 0, none⟩ = some (.slice (some ⟨lb, lo, none⟩) T.length tcap) := blk_cell (blk_mod HK4.out HB.out id) 0))
          all_goals
            have HKe := Lib.hid (HK.out.keep HK4.out)
            have hm1 := Hq.out.1
            have hfb := Hfu.out.2.1
            have Hdl := deep_le (T := T) f y.2
            have hfo : (n.names.take (i + 1)).foldl (fun m p => max m (1 + deepT T f p.2)) 0 = max m (1 + deepT T f y.2) := by
              rw [take_snoc Hy.out, List.foldl_append, Hq.out.2]; rfl
            generalize deepT T f y.2 = dv at *
            have hmax : max (m : Int) (1 + (dv : Int)) = ((max m (1 + dv) : Nat) : Int) := by omega
            have hwr1 : IntKind.i64.wrap (1 + (dv : Int)) = 1 + (dv : Int) := by rw [IntKind.wrap_i64]; omega
            have Hq2 : RowKit.Hid (max m (1 + dv) ≤ 101 ∧ (n.names.take (i + 1)).foldl (fun m p => max m (1 + deepT T f p.2)) 0 = max m (1 + dv)) := Lib.hid ⟨by omega, hfo⟩
            clear hfo e1 t0 u03 u13 u23 u33 t03 u04 u14 u24 u34 t04
            go_wp2_with fail
            refine ⟨⟨i + 1, max m (1 + dv), by omega, by first | rfl | (rw [hmax]), by go_num, by first | exact HKe.out | exact HKe.out.drew, Hq2⟩, by simp [intOf]; omega⟩
        · obtain rfl : i = n.names.length := by omega
          have Hv : RowKit.Hid (deepT T (f + 1) k = m) := Lib.hid (by rw [Hdv.out, ← Hq.out.2, List.take_length])
          clear hlt
          go_wp2_with fail
          go_ret
          rw [Hv.out]
          exact ⟨rfl, HK1.out.keep HK.out⟩
end
end
section
open Go.RowKit
section
variable {T : Tr} {d : Int → Nat} {w : World} {t : Nat}
set_option maxRecDepth 100000 in
set_option maxHeartbeats 8000000 in
theorem rwrites_any (h : RefAt w t (toldT T)) (hw : WF T d) (c : Cmd) (hc : c.Small) (hp0 : 0 ≤ c.pos ∧ c.pos ≤ 16384) (hdl : c.data.length ≤ 512) (hcut : c.kind ≠ 2 → c.data = []) :
    Calls Tryz.prog 47 #[.pointer (some ⟨t, 0, none⟩), cmdV c] w fun e w' => e = .returned (.int .i64 (writesT T c).2) ∧ RefAt w' t (toldT (writesT T c).1) ∧ Mod (· = t) w w' := by
  have HC := Lib.hid hc
  have hk0 : Keep w (w.alloc (.cells (cmdC c) 38)) := (Mod.refl _ w).alloc _
  have HR := Lib.hid (h.keep hk0)
  have HW := Lib.hid hw
  have HCB : RowKit.Hid (World.blk (w.alloc (.cells (cmdC c) 38)) w.heap.size (cmdC c) 38) := Lib.hid (blk_new _ _ _)
  have Hpos := Lib.hid hp0
  have Hdl := Lib.hid hdl
  have Hcut := Lib.hid hcut
  clear h hw hc hk0 hp0 hdl hcut
  go_enter Tryz.func47, Tryz.ntmps47
  unfold cmdV cmdC
  go_wp2_with fail
  unfold cmdC at HR HCB
  have HK0 : RowKit.Hid (Keep w (w.alloc (.cells #[.int .i64 c.kind, .string ⟨c.path.toArray⟩, .string ⟨c.dest.toArray⟩, .int .i64 c.pos, .string ⟨c.data.toArray⟩] 38))) := Lib.hid ((Mod.refl _ w).alloc _)
  generalize w.alloc (.cells #[.int .i64 c.kind, .string ⟨c.path.toArray⟩, .string ⟨c.dest.toArray⟩, .int .i64 c.pos, .string ⟨c.data.toArray⟩] 38) = w0 at *
  refine (rget_any HR.out HW.out c.path HC.out.path).mono ?_
  rintro e w1 ⟨rfl, hk⟩
  have HCB1 := Lib.hid (blk_mod hk HCB.out id)
  have HR1 := Lib.hid (HR.out.keep hk)
  have HK1 := Lib.hid (HK0.out.keep hk)
  clear hk HCB HR HK0
  rcases node_cases HW.out c.path with ⟨e, ha, hn, hne⟩ | ⟨j, n, ha, hg, hn⟩
  · rw [hn]
    unfold getV
    have Hv : RowKit.Hid (writesT T c = (T, e)) := Lib.hid (by rw [writesT, ha])
    clear ha hn
    go_wp2_with fail
    go_ret
    rw [Hv.out]
    exact ⟨rfl, HR1.out.keep ((Mod.refl _ _).alloc _), (HK1.out.alloc _).mono (fun _ _ h => h.elim)⟩
  · rw [hn]
    have Hnum : RowKit.Hid (n.num = j) := Lib.hid ((get_iff HW.out.sorted).1 hg).2
    cases hd : n.dir with
    | true =>
      rw [show getV (Except.ok n) = .tuple #[nodeV ⟨n.num, true, n.links, encE n.names⟩, .int .i64 0] by show Value.tuple #[nodeV n.told, _] = _; unfold Nd.told; simp [hd]]
      have Hv : RowKit.Hid (writesT T c = (T, 143)) := Lib.hid (by rw [writesT, ha]; simp [hg, hd])
      clear ha hg hd hn
      go_wp2_with fail
      go_ret
      rw [Hv.out]
      exact ⟨rfl, HR1.out.keep ((Mod.refl _ _).alloc _), (HK1.out.alloc _).mono (fun _ _ h => h.elim)⟩
    | false =>
      rw [show getV (Except.ok n) = .tuple #[nodeV ⟨n.num, false, n.links, n.data⟩, .int .i64 0] by show Value.tuple #[nodeV n.told, _] = _; unfold Nd.told; simp [hd]]
      have Hv : RowKit.Hid (writesT T c = if (n.data.length : Int) < c.pos ∨ c.kind = 2 ∧ 16384 < c.pos + c.data.length then (T, 145) else (T.upd j fun n => { n with data := cutW c n.data }, 0)) := Lib.hid (by rw [writesT, ha]; simp [hg, hd])
      have hnl := (HW.out.file n ((get_iff HW.out.sorted).1 hg).1 hd).2
      have Hnl := Lib.hid hnl
      have Hg := Lib.hid hg
      have hk2 : Keep w1 (w1.alloc (.cells #[.int .i64 n.num, .bool false, .int .i64 n.links, .string ⟨n.data.toArray⟩] 41)) := (Mod.refl _ w1).alloc _
      have HXB : RowKit.Hid (World.blk (w1.alloc (.cells #[.int .i64 n.num, .bool false, .int .i64 n.links, .string ⟨n.data.toArray⟩] 41)) w1.heap.size #[.int .i64 n.num, .bool false, .int .i64 n.links, .string ⟨n.data.toArray⟩] 41) := Lib.hid (blk_new _ _ _)
      have HCB2 := Lib.hid (blk_mod hk2 HCB1.out id)
      have HR2 := Lib.hid (HR1.out.keep hk2)
      have HK2 := Lib.hid (HK1.out.keep hk2)
      have hwx : w.heap.size ≤ w1.heap.size := HK1.out.size
      have HD := Lib.hid hd
      clear ha hg hd hn hnl hk2 HCB1
      obtain ⟨pos, hpos⟩ : ∃ pos : Nat, c.pos = pos := ⟨c.pos.toNat, by have := Hpos.out; omega⟩
      have HP := Lib.hid hpos
      have hpb : pos ≤ 16384 := by have := Hpos.out; omega
      have Hpb := Lib.hid hpb
      obtain ⟨kd, hkd⟩ : ∃ kd, c.kind = kd := ⟨_, rfl⟩
      have HKd := Lib.hid hkd
      obtain ⟨D, hD⟩ : ∃ D, c.data = D := ⟨_, rfl⟩
      have HDD := Lib.hid hD
      have hDl : D.length ≤ 512 := by rw [← hD]; exact Hdl.out
      have HDl := Lib.hid hDl
      have z0 : World.cell? (w1.alloc (.cells #[.int .i64 n.num, .bool false, .int .i64 n.links, .string ⟨n.data.toArray⟩] 41)) ⟨w.heap.size, 0, none⟩ = some (.int .i64 kd) := by rw [← hkd]; exact blk_cell HCB2.out 0
      have z3 : World.cell? (w1.alloc (.cells #[.int .i64 n.num, .bool false, .int .i64 n.links, .string ⟨n.data.toArray⟩] 41)) ⟨w.heap.size, 3, none⟩ = some (.int .i64 pos) := by rw [← hpos]; exact blk_cell HCB2.out 3
      have z4 : World.cell? (w1.alloc (.cells #[.int .i64 n.num, .bool false, .int .i64 n.links, .string ⟨n.data.toArray⟩] 41)) ⟨w.heap.size, 4, none⟩ = some (.string ⟨D.toArray⟩) := by rw [← hD]; exact blk_cell HCB2.out 4
      clear hpos hkd hD hpb hDl
      by_cases hb1 : (n.data.length : Int) < pos
      · have Hv2 : RowKit.Hid (writesT T c = (T, 145)) := Lib.hid (by rw [Hv.out, HP.out, if_pos (.inl hb1)])
        go_wp2_with fail
        go_ret
        rw [Hv2.out]
        exact ⟨rfl, HR2.out, HK2.out.mono (fun _ _ h => h.elim)⟩
      · have hle : pos ≤ n.data.length := by omega
        have hd1 : decide (n.data.length < pos) = false := by rw [decide_eq_false_iff_not]; omega
        have hsum : IntKind.i64.wrap ((pos : Int) + (D.length : Int)) = (pos : Int) + (D.length : Int) := by rw [IntKind.wrap_i64]; have := Hpb.out; have := HDl.out; omega
        by_cases hk2 : kd = 2
        · have hq2 : (kd == 2) = true := beq_iff_eq.2 hk2
          by_cases hb2 : (16384 : Int) < (pos : Int) + (D.length : Int)
          · have Hv2 : RowKit.Hid (writesT T c = (T, 145)) := Lib.hid (by rw [Hv.out, HP.out, HKd.out, HDD.out, if_pos (.inr ⟨hk2, hb2⟩)])
            have hd2 : decide ((16384 : Int) < (pos : Int) + (D.length : Int)) = true := by rw [decide_eq_true_iff]; exact hb2
            clear hk2 hle hb1
            go_wp2_with fail
            go_ret
            rw [Hv2.out]
            exact ⟨rfl, HR2.out, HK2.out.mono (fun _ _ h => h.elim)⟩
          · have Hv2 : RowKit.Hid (writesT T c = (T.upd j fun n => { n with data := cutW c n.data }, 0)) := Lib.hid (by rw [Hv.out, HP.out, HKd.out, HDD.out, if_neg (by rintro (h | ⟨_, h⟩); exact hb1 h; exact hb2 h)])
            have Hle := Lib.hid hle
            have hz1 : (pos : Int) ≤ n.data.length := by omega
            have hz0 : (0 : Int) ≤ pos := by omega
            have hcat : ¬ 9223372036854775807 < min pos n.data.length + D.length := by have := Hpb.out; have := HDl.out; omega
            have hd2 : decide ((16384 : Int) < (pos : Int) + (D.length : Int)) = false := by rw [decide_eq_false_iff_not]; exact hb2
            have hpu : RowKit.Hid (goPut ⟨n.num, false, n.links, cutW c n.data⟩ false (toldT T) = toldT (T.upd j fun n => { n with data := cutW c n.data })) := Lib.hid (by
              have h := put_upd HW.out.sorted (f := fun n => { n with data := cutW c n.data }) Hg.out Hnum.out
              rw [show (Nd.told { n with data := cutW c n.data }) = ⟨n.num, false, n.links, cutW c n.data⟩ by unfold Nd.told; simp [HD.out]] at h
              exact h)
            have Hcw : RowKit.Hid (∀ s, n.data.take pos ++ D = s → (s.length < n.data.length → s ++ n.data.drop s.length = cutW c n.data) ∧ (¬ s.length < n.data.length → s = cutW c n.data)) := Lib.hid (fun s hs => by
              unfold cutW
              rw [HP.out, Int.toNat_natCast, HDD.out, hs]
              simp only
              exact ⟨fun h => by rw [if_pos ⟨HKd.out.trans hk2, h⟩], fun h => by rw [if_neg (fun hh => h hh.2)]⟩)
            have hlen : (n.data.take pos ++ D).length = min pos n.data.length + D.length := by rw [List.length_append, List.length_take]
            have Hlen := Lib.hid hlen
            clear hle hb1 hb2 hk2 hlen
            by_cases hlt : min pos n.data.length + D.length < n.data.length
            · have hX : RowKit.Hid (List.take pos n.data ++ (D ++ List.drop (min pos n.data.length + D.length) n.data) = cutW c n.data) := Lib.hid (by
                rw [← (Hcw.out _ rfl).1 (by rw [Hlen.out]; exact hlt), Hlen.out, List.append_assoc])
              have hcat2 : ¬ 9223372036854775807 < min pos n.data.length + D.length + (n.data.length - (min pos n.data.length + D.length)) := by have := Hnl.out; omega
              have hcat3 : ¬ 9223372036854775807 < min pos n.data.length + (D.length + (n.data.length - (min pos n.data.length + D.length))) := by have := Hnl.out; omega
              go_wp2_with fail
              rw [hX.out]
              refine (rput_any (l := toldT T) (HR1.out.keep ((Mod.refl _ _).alloc _)) (by rw [told_len]; have := HW.out.many; omega) ⟨n.num, false, n.links, cutW c n.data⟩).mono ?_
              rintro e w4 ⟨rfl, hr4, hm4⟩
              have Hr4 := Lib.hid hr4
              have HM4 : RowKit.Hid (Mod (· = t) w w4) := Lib.hid (((HK1.out.alloc _).mono (fun _ _ h => h.elim)).trans hm4 (fun i _ h => h))
              clear hr4 hm4
              go_wp2_with fail
              go_ret
              rw [Hv2.out]
              exact ⟨rfl, by rw [← hpu.out]; exact Hr4.out, HM4.out⟩
            · have hX : RowKit.Hid (List.take pos n.data ++ D = cutW c n.data) := Lib.hid ((Hcw.out _ rfl).2 (by rw [Hlen.out]; exact hlt))
              go_wp2_with fail
              rw [hX.out]
              refine (rput_any (l := toldT T) (HR1.out.keep ((Mod.refl _ _).alloc _)) (by rw [told_len]; have := HW.out.many; omega) ⟨n.num, false, n.links, cutW c n.data⟩).mono ?_
              rintro e w4 ⟨rfl, hr4, hm4⟩
              have Hr4 := Lib.hid hr4
              have HM4 : RowKit.Hid (Mod (· = t) w w4) := Lib.hid (((HK1.out.alloc _).mono (fun _ _ h => h.elim)).trans hm4 (fun i _ h => h))
              clear hr4 hm4
              go_wp2_with fail
              go_ret
              rw [Hv2.out]
              exact ⟨rfl, by rw [← hpu.out]; exact Hr4.out, HM4.out⟩
        · have hq2 : (kd == 2) = false := beq_false_of_ne hk2
          have Hv2 : RowKit.Hid (writesT T c = (T.upd j fun n => { n with data := cutW c n.data }, 0)) := Lib.hid (by rw [Hv.out, HP.out, HKd.out, HDD.out, if_neg (by rintro (h | ⟨h, _⟩); exact hb1 h; exact hk2 h)])
          have hz1 : (pos : Int) ≤ n.data.length := by omega
          have hz0 : (0 : Int) ≤ pos := by omega
          have hpu : RowKit.Hid (goPut ⟨n.num, false, n.links, cutW c n.data⟩ false (toldT T) = toldT (T.upd j fun n => { n with data := cutW c n.data })) := Lib.hid (by
            have h := put_upd HW.out.sorted (f := fun n => { n with data := cutW c n.data }) Hg.out Hnum.out
            rw [show (Nd.told { n with data := cutW c n.data }) = ⟨n.num, false, n.links, cutW c n.data⟩ by unfold Nd.told; simp [HD.out]] at h
            exact h)
          have hX : RowKit.Hid (List.take pos n.data = cutW c n.data) := Lib.hid (by
            unfold cutW
            rw [Hcut.out (fun e => hk2 (HKd.out.symm.trans e)), HP.out, Int.toNat_natCast]
            simp only
            rw [if_neg (fun h => hk2 (HKd.out.symm.trans h.1)), List.append_nil])
          clear hle hb1 hk2
          go_wp2_with fail
          rw [hX.out]
          refine (rput_any (l := toldT T) (HR1.out.keep ((Mod.refl _ _).alloc _)) (by rw [told_len]; have := HW.out.many; omega) ⟨n.num, false, n.links, cutW c n.data⟩).mono ?_
          rintro e w4 ⟨rfl, hr4, hm4⟩
          have Hr4 := Lib.hid hr4
          have HM4 : RowKit.Hid (Mod (· = t) w w4) := Lib.hid (((HK1.out.alloc _).mono (fun _ _ h => h.elim)).trans hm4 (fun i _ h => h))
          clear hr4 hm4
          go_wp2_with fail
          go_ret
          rw [Hv2.out]
          exact ⟨rfl, by rw [← hpu.out]; exact Hr4.out, HM4.out⟩
end
end
section
open Go.RowKit
section
variable {T : Tr} {d : Int → Nat} {off : Int → Int} {w : World} {t : Nat}
theorem upd_named {j k : Int} {f : Nd → Nd} {g : Nm → Nm} (hjk : j ≠ k) (hf : ∀ n, (f n).num = n.num) : (T.upd j f).named k g = (T.named k g).upd j f := by
  unfold Tr.named Tr.upd
  rw [List.map_map, List.map_map]
  refine List.map_congr_left fun n _ => ?_
  simp only [Function.comp]
  by_cases h1 : n.num = j
  · have h2 : ¬ n.num = k := by omega
    have e1 : (n.num == j) = true := beq_iff_eq.2 h1
    have e2 : (n.num == k) = false := beq_false_of_ne h2
    have e3 : ((f n).num == k) = false := by rw [hf]; exact e2
    simp [e1, e2, e3]
  · have e1 : (n.num == j) = false := beq_false_of_ne h1
    by_cases h2 : n.num = k
    · have e2 : (n.num == k) = true := beq_iff_eq.2 h2
      simp [e1, e2]
    · have e2 : (n.num == k) = false := beq_false_of_ne h2
      simp [e1, e2]
theorem ents_put (h : WFo T d off) {k j : Int} {s : List UInt8} {up : Nd} (hk : T.get k = some up) (hd : up.dir = true) (hs : getN s up.names = none) (hl : up.names.length < 60) (hok : nameOk s = true)
    (hj : j ≠ 1) {nj : Nd} (hnj : T.get j = some nj) (h7 : d k ≤ 7) (hdj : nj.dir = true → d j = d k + 1) : entsOk (putN s j up.names) = true := by
  have h1 := wf_put h hk hd hs hl hok hj hnj h7 hdj
  have h2 : (T.named k (putN s j)).get k = some { up with names := putN s j up.names } := by rw [get_named, if_pos rfl, hk]; rfl
  exact h1.ents ((get_iff h1.sorted).1 h2).1
theorem nameF_put {s : List UInt8} {j : Int} (hj : j ≠ 0) : nameF s j = putN s j := by
  funext l
  unfold nameF
  rw [beq_false_of_ne hj, goN_put]
set_option maxRecDepth 100000 in
set_option maxHeartbeats 8000000 in
theorem rlinks_any (h : RefAt w t (toldT T)) (hw : WF T d) (c : Cmd) (hc : c.Small) :
    Calls Tryz.prog 48 #[.pointer (some ⟨t, 0, none⟩), cmdV c] w fun e w' => e = .returned (.int .i64 (linksT T c).2) ∧ RefAt w' t (toldT (linksT T c).1) ∧ Mod (· = t) w w' := by
  have HC := Lib.hid hc
  have hk0 : Keep w (w.alloc (.cells (cmdC c) 38)) := (Mod.refl _ w).alloc _
  have HR := Lib.hid (h.keep hk0)
  have HW := Lib.hid hw
  have HCB : RowKit.Hid (World.blk (w.alloc (.cells (cmdC c) 38)) w.heap.size (cmdC c) 38) := Lib.hid (blk_new _ _ _)
  clear h hw hc hk0
  go_enter Tryz.func48, Tryz.ntmps48
  unfold cmdV cmdC
  go_wp2_with fail
  unfold cmdC at HR HCB
  have HK0 : RowKit.Hid (Keep w (w.alloc (.cells #[.int .i64 c.kind, .string ⟨c.path.toArray⟩, .string ⟨c.dest.toArray⟩, .int .i64 c.pos, .string ⟨c.data.toArray⟩] 38))) := Lib.hid ((Mod.refl _ w).alloc _)
  generalize w.alloc (.cells #[.int .i64 c.kind, .string ⟨c.path.toArray⟩, .string ⟨c.dest.toArray⟩, .int .i64 c.pos, .string ⟨c.data.toArray⟩] 38) = w0 at *
  refine (rget_any HR.out HW.out c.path HC.out.path).mono ?_
  rintro e w1 ⟨rfl, hk⟩
  have HCB1 := Lib.hid (blk_mod hk HCB.out id)
  have HR1 := Lib.hid (HR.out.keep hk)
  have HK1 := Lib.hid (HK0.out.keep hk)
  clear hk HCB HR HK0
  rcases node_cases HW.out c.path with ⟨e, ha, hn, hne⟩ | ⟨j, n, ha, hg, hn⟩
  · rw [hn]
    unfold getV
    have Hv : RowKit.Hid (linksT T c = (T, e)) := Lib.hid (by rw [linksT, ha])
    clear ha hn
    go_wp2_with fail
    go_ret
    rw [Hv.out]
    exact ⟨rfl, HR1.out.keep ((Mod.refl _ _).alloc _), (HK1.out.alloc _).mono (fun _ _ h => h.elim)⟩
  · rw [hn]
    have Hnum : RowKit.Hid (n.num = j) := Lib.hid ((get_iff HW.out.sorted).1 hg).2
    cases hd : n.dir with
    | true =>
      rw [show getV (Except.ok n) = .tuple #[nodeV ⟨n.num, true, n.links, encE n.names⟩, .int .i64 0] by show Value.tuple #[nodeV n.told, _] = _; unfold Nd.told; simp [hd]]
      have Hv : RowKit.Hid (linksT T c = (T, 143)) := Lib.hid (by rw [linksT, ha]; simp [hg, hd])
      clear ha hg hd hn
      go_wp2_with fail
      go_ret
      rw [Hv.out]
      exact ⟨rfl, HR1.out.keep ((Mod.refl _ _).alloc _), (HK1.out.alloc _).mono (fun _ _ h => h.elim)⟩
    | false =>
      rw [show getV (Except.ok n) = .tuple #[nodeV ⟨n.num, false, n.links, n.data⟩, .int .i64 0] by show Value.tuple #[nodeV n.told, _] = _; unfold Nd.told; simp [hd]]
      have Hg := Lib.hid hg
      have HD := Lib.hid hd
      have hcnt := HW.out.count n ((get_iff HW.out.sorted).1 hg).1
      have z2 : World.cell? (w1.alloc (.cells #[.int .i64 n.num, .bool false, .int .i64 n.links, .string ⟨n.data.toArray⟩] 41)) ⟨w.heap.size, 2, none⟩ = some (.string ⟨c.dest.toArray⟩) := blk_cell (blk_alloc HCB1.out _) 2
      have Hle : RowKit.Hid (∀ e, roomT T c.dest = .error e → linksT T c = (T, e)) := Lib.hid (fun e he => by rw [linksT, ha]; simp [hg, hd, he])
      have Hlo : RowKit.Hid (∀ k s, roomT T c.dest = .ok (k, s) → linksT T c = ((T.named k (putN s j)).upd j fun n => { n with links := n.links + 1 }, 0)) := Lib.hid (fun k s he => by rw [linksT, ha]; simp [hg, hd, he])
      clear ha hg hd hn hcnt
      go_wp2_with fail
      refine (rroom_any (T := T) (HR1.out.keep ((Mod.refl _ _).alloc _)) HW.out c.dest HC.out.dest).mono ?_
      cases hr : roomT T c.dest with
      | error e =>
        have hne : (e == 0) = false := by have := room_err hr; rw [beq_eq_false_iff_ne]; omega
        have Hv : RowKit.Hid (linksT T c = (T, e)) := Lib.hid (Hle.out _ hr)
        rintro e1 w2 ⟨rfl, hk2⟩
        have HR2 := Lib.hid ((HR1.out.keep ((Mod.refl _ _).alloc _)).keep hk2)
        have HK2 := Lib.hid ((HK1.out.alloc _).keep hk2)
        clear hr hk2 z2
        unfold rroomV rroomE
        go_wp2_with fail
        go_ret
        rw [Hv.out]
        exact ⟨rfl, HR2.out.keep ((Mod.refl _ _).alloc _), (HK2.out.alloc _).mono (fun _ _ h => h.elim)⟩
      | ok ks =>
        obtain ⟨k, s⟩ := ks
        rintro e1 w2 ⟨rfl, hk2⟩
        have Hv : RowKit.Hid (linksT T c = ((T.named k (putN s j)).upd j fun n => { n with links := n.links + 1 }, 0)) := Lib.hid (Hlo.out _ _ hr)
        obtain ⟨q, up, hp, hp7, hok, hf, hgk, hdk, hns, h60, hdd⟩ := room_ok HW.out hr
        have Hup := Lib.hid (And.intro hgk (And.intro hdk (And.intro hns (And.intro h60 (And.intro hok (And.intro hdd hp7))))))
        rw [show rroomV T (Except.ok (k, s)) = .tuple #[nodeV ⟨up.num, true, up.links, encE up.names⟩, .string ⟨s.toArray⟩, .int .i64 0] by simp only [rroomV, hgk, Option.map_some, Option.getD_some]; unfold Nd.told; simp [hdk]]
        have HXB : RowKit.Hid (World.blk w2 w1.heap.size #[.int .i64 n.num, .bool false, .int .i64 n.links, .string ⟨n.data.toArray⟩] 41) := Lib.hid (blk_mod hk2 (blk_new _ _ _) id)
        have HR2 := Lib.hid ((HR1.out.keep ((Mod.refl _ _).alloc _)).keep hk2)
        have HK2 := Lib.hid ((HK1.out.alloc _).keep hk2)
        have HXB3 : RowKit.Hid (World.blk (w2.alloc (.cells #[.int .i64 up.num, .bool true, .int .i64 up.links, .string ⟨List.toArray (encE up.names)⟩] 41)) w1.heap.size #[.int .i64 n.num, .bool false, .int .i64 n.links, .string ⟨n.data.toArray⟩] 41) := Lib.hid (blk_alloc HXB.out _)
        have HUB3 : RowKit.Hid (World.blk (w2.alloc (.cells #[.int .i64 up.num, .bool true, .int .i64 up.links, .string ⟨List.toArray (encE up.names)⟩] 41)) w2.heap.size #[.int .i64 up.num, .bool true, .int .i64 up.links, .string ⟨List.toArray (encE up.names)⟩] 41) := Lib.hid (blk_new _ _ _)
        have x0 : World.cell? (w2.alloc (.cells #[.int .i64 up.num, .bool true, .int .i64 up.links, .string ⟨List.toArray (encE up.names)⟩] 41)) ⟨w1.heap.size, 0, none⟩ = some (.int .i64 n.num) := blk_cell HXB3.out 0
        have x1 : World.cell? (w2.alloc (.cells #[.int .i64 up.num, .bool true, .int .i64 up.links, .string ⟨List.toArray (encE up.names)⟩] 41)) ⟨w1.heap.size, 1, none⟩ = some (.bool false) := blk_cell HXB3.out 1
        have x2 : World.cell? (w2.alloc (.cells #[.int .i64 up.num, .bool true, .int .i64 up.links, .string ⟨List.toArray (encE up.names)⟩] 41)) ⟨w1.heap.size, 2, none⟩ = some (.int .i64 n.links) := blk_cell HXB3.out 2
        have x3 : World.cell? (w2.alloc (.cells #[.int .i64 up.num, .bool true, .int .i64 up.links, .string ⟨List.toArray (encE up.names)⟩] 41)) ⟨w1.heap.size, 3, none⟩ = some (.string ⟨n.data.toArray⟩) := blk_cell HXB3.out 3
        have f2 : World.frozen? (w2.alloc (.cells #[.int .i64 up.num, .bool true, .int .i64 up.links, .string ⟨List.toArray (encE up.names)⟩] 41)) ⟨w1.heap.size, 2, none⟩ = false := blk_free HXB3.out _ rfl
        have hk12 : Keep w1 w2 := ((Mod.refl _ w1).alloc _).keep hk2
        have hkW : Keep w1 (World.setCell (w2.alloc (.cells #[.int .i64 up.num, .bool true, .int .i64 up.links, .string ⟨List.toArray (encE up.names)⟩] 41)) ⟨w1.heap.size, 2, none⟩ (.int .i64 (n.links + 1))) := (hk12.alloc _).setCell (p := ⟨w1.heap.size, 2, none⟩) (.inr (Nat.le_refl _)) _
        have HR4 := Lib.hid (HR1.out.keep hkW)
        have HK4 := Lib.hid (HK1.out.keep hkW)
        have hob1 : w1.heap.size < w2.heap.size := by have := hk2.size; simp at this; omega
        have HX4 : RowKit.Hid (World.blk (World.setCell (w2.alloc (.cells #[.int .i64 up.num, .bool true, .int .i64 up.links, .string ⟨List.toArray (encE up.names)⟩] 41)) ⟨w1.heap.size, 2, none⟩ (.int .i64 (n.links + 1))) w1.heap.size #[.int .i64 n.num, .bool false, .int .i64 (n.links + 1), .string ⟨n.data.toArray⟩] 41) := Lib.hid (blk_set HXB3.out 2 _)
        have HU4 : RowKit.Hid (World.blk (World.setCell (w2.alloc (.cells #[.int .i64 up.num, .bool true, .int .i64 up.links, .string ⟨List.toArray (encE up.names)⟩] 41)) ⟨w1.heap.size, 2, none⟩ (.int .i64 (n.links + 1))) w2.heap.size #[.int .i64 up.num, .bool true, .int .i64 up.links, .string ⟨List.toArray (encE up.names)⟩] 41) := Lib.hid (blk_mod ((Mod.refl (fun x => x = w1.heap.size) _).setCell (p := ⟨w1.heap.size, 2, none⟩) (.inl rfl) _) HUB3.out (by show ¬ w2.heap.size = w1.heap.size; omega))
        obtain ⟨hls1, hls2⟩ := links_small HW.out Hg.out
        have hw64 : wrap64 (n.links + 1) = n.links + 1 := by unfold wrap64; omega
        have Hob1 := Lib.hid hob1
        clear hr hp hp7 hok hf hgk hdk hns h60 hdd hk2 z2 hk12 hkW HXB3 HUB3 HXB hob1
        go_wp2_with fail
        try rw [hw64]
        have hob1 := Hob1.out
        clear x0 x1 x2 x3 f2
        have htl := blk_lt (Classical.choose_spec (Classical.choose_spec HR1.out.row)).1
        generalize (World.setCell (w2.alloc (.cells #[.int .i64 up.num, .bool true, .int .i64 up.links, .string ⟨List.toArray (encE up.names)⟩] 41)) ⟨w1.heap.size, 2, none⟩ (.int .i64 (n.links + 1))) = w4 at *
        generalize w2.heap.size = ub at *
        generalize hob : w1.heap.size = ob at *
        refine (rput_any (l := toldT T) HR4.out (by rw [told_len]; have := HW.out.many; omega) ⟨n.num, false, n.links + 1, n.data⟩).mono ?_
        rw [show goPut ⟨n.num, false, n.links + 1, n.data⟩ false (toldT T) = toldT (T.upd j fun n => { n with links := n.links + 1 }) by
          have h := put_upd HW.out.sorted (f := fun n => { n with links := n.links + 1 }) Hg.out Hnum.out
          rw [show (Nd.told { n with links := n.links + 1 }) = ⟨n.num, false, n.links + 1, n.data⟩ by unfold Nd.told; simp [HD.out]] at h
          exact h]
        rintro e w5 ⟨rfl, hr5, hm5⟩
        have HR5 := Lib.hid hr5
        have HM5 : RowKit.Hid (Mod (· = t) w w5) := Lib.hid ((HK4.out.mono (fun _ _ h => h.elim)).trans hm5 (fun i _ h => h))
        have x0 : w5.cell? ⟨ob, 0, none⟩ = some (.int .i64 n.num) := blk_cell (blk_mod hm5 HX4.out (by show ¬ ob = t; omega)) 0
        have u0 : w5.cell? ⟨ub, 0, none⟩ = some (.int .i64 up.num) := blk_cell (blk_mod hm5 HU4.out (by show ¬ ub = t; omega)) 0
        clear hr5 hm5
        go_wp2_with fail
        obtain ⟨hgk, hdk, hns, h60, hok, hdd, hq7⟩ := Hup.out
        obtain ⟨hkm, hkn⟩ := (get_iff HW.out.sorted).1 hgk
        obtain ⟨hjm, _⟩ := (get_iff HW.out.sorted).1 Hg.out
        have hnb := HW.out.nums n hjm
        rw [Hnum.out] at hnb
        have hj1 : j ≠ 1 := fun e => by
          obtain ⟨r, hr1, hr2⟩ := WFo.get1 HW.out
          have h1 := Hg.out
          rw [e, hr1] at h1
          obtain rfl := Option.some.inj h1
          have h2 := HD.out
          rw [hr2] at h2; cases h2
        have hjk : j ≠ k := fun e => by
          have h1 := Hg.out
          rw [e, hgk] at h1
          obtain rfl := Option.some.inj h1
          have h2 := HD.out
          rw [hdk] at h2; cases h2
        have hsl : s.length ≤ 16 := by
          simp only [nameOk, Bool.and_eq_true, decide_eq_true_eq] at hok
          exact hok.1.1.2
        have hep : entsOk (putN s j up.names) = true := ents_put HW.out hgk hdk hns h60 hok hj1 Hg.out (by omega) (fun e => by rw [HD.out] at e; cases e)
        have hg1 : (T.upd j fun n => { n with links := n.links + 1 }).get k = some up := by rw [get_upd (f := fun n => { n with links := n.links + 1 }) (fun _ => rfl), if_neg (fun e => hjk e.symm)]; exact hgk
        rw [hkn, Hnum.out]
        have hcall := rnamed_any (T := T.upd j fun n => { n with links := n.links + 1 }) HR5.out (upd_sorted (fun _ => rfl) HW.out.sorted) (by rw [upd_len]; have := HW.out.many; omega) hg1 hdk (HW.out.ents hkm) (by omega) s hsl j ⟨by omega, hnb.2⟩ (by rw [nameF_put (by omega)]; exact hep)
        rw [nameF_put (by omega), upd_named (f := fun n => { n with links := n.links + 1 }) hjk (fun _ => rfl)] at hcall
        refine hcall.mono ?_
        clear hcall
        rintro e w6 ⟨rfl, hr6, hm6⟩
        have HR6 := Lib.hid hr6
        have HM6 : RowKit.Hid (Mod (· = t) w w6) := Lib.hid (HM5.out.trans hm6 (fun i _ h => h))
        clear hr6 hm6 x0 u0 hep hg1 hgk hdk hns h60 hok hdd hq7 hkm hkn hjm hnb hj1 hjk hsl
        go_wp2_with fail
        go_ret
        rw [Hv.out]
        exact ⟨rfl, HR6.out, HM6.out⟩
end
end
section
open Go.RowKit
section
variable {T : Tr} {d : Int → Nat} {off : Int → Int} {w : World} {t : Nat}
set_option maxRecDepth 100000 in
set_option maxHeartbeats 8000000 in
theorem rmakes_any (h : RefAt w t (toldT T)) (hw : WF T d) (c : Cmd) (hc : c.Small) (hk : c.kind = 0 ∨ c.kind = 1) :
    Calls Tryz.prog 46 #[.pointer (some ⟨t, 0, none⟩), cmdV c] w fun e w' => e = .returned (.int .i64 (makesT T c).2) ∧ RefAt w' t (toldT (makesT T c).1) ∧ Mod (· = t) w w' := by
  have HC := Lib.hid hc
  have HKd := Lib.hid hk
  have hk0 : Keep w (w.alloc (.cells (cmdC c) 38)) := (Mod.refl _ w).alloc _
  have HR := Lib.hid (h.keep hk0)
  have HW := Lib.hid hw
  have HCB : RowKit.Hid (World.blk (w.alloc (.cells (cmdC c) 38)) w.heap.size (cmdC c) 38) := Lib.hid (blk_new _ _ _)
  clear h hw hc hk0 hk
  go_enter Tryz.func46, Tryz.ntmps46
  unfold cmdV cmdC
  go_wp2_with fail
  unfold cmdC at HR HCB
  have HK0 : RowKit.Hid (Keep w (w.alloc (.cells #[.int .i64 c.kind, .string ⟨c.path.toArray⟩, .string ⟨c.dest.toArray⟩, .int .i64 c.pos, .string ⟨c.data.toArray⟩] 38))) := Lib.hid ((Mod.refl _ w).alloc _)
  generalize w.alloc (.cells #[.int .i64 c.kind, .string ⟨c.path.toArray⟩, .string ⟨c.dest.toArray⟩, .int .i64 c.pos, .string ⟨c.data.toArray⟩] 38) = w0 at *
  refine (rroom_any (T := T) HR.out HW.out c.path HC.out.path).mono ?_
  cases hr : roomT T c.path with
  | error e =>
    have hne : (e == 0) = false := by have := room_err hr; rw [beq_eq_false_iff_ne]; omega
    have Hv : RowKit.Hid (makesT T c = (T, e)) := Lib.hid (by rw [makesT, hr])
    rintro e1 w1 ⟨rfl, hk1⟩
    have HR1 := Lib.hid (HR.out.keep hk1)
    have HK1 := Lib.hid (HK0.out.keep hk1)
    clear hr hk1
    unfold rroomV rroomE
    go_wp2_with fail
    go_ret
    rw [Hv.out]
    exact ⟨rfl, HR1.out.keep ((Mod.refl _ _).alloc _), (HK1.out.alloc _).mono (fun _ _ h => h.elim)⟩
  | ok ks =>
    obtain ⟨k, s⟩ := ks
    obtain ⟨q, up, hp, hp7, hok, hf, hgk, hdk, hns, h60, hdd⟩ := room_ok HW.out hr
    have Hup := Lib.hid (And.intro hgk (And.intro hdk (And.intro hns (And.intro h60 (And.intro hok (And.intro hdd hp7))))))
    rw [show rroomV T (Except.ok (k, s)) = .tuple #[nodeV ⟨up.num, true, up.links, encE up.names⟩, .string ⟨s.toArray⟩, .int .i64 0] by simp only [rroomV, hgk, Option.map_some, Option.getD_some]; unfold Nd.told; simp [hdk]]
    have Hv0 : RowKit.Hid (makesT T c = if 60 ≤ T.length then (T, 145) else ((Tr.add ⟨freshT T T.length 2, c.kind == 1, 1, [], []⟩ T).named k (putN s (freshT T T.length 2)), 0)) := Lib.hid (by rw [makesT, hr])
    rintro e1 w1 ⟨rfl, hk1⟩
    have hkU : Keep w1 (w1.alloc (.cells #[.int .i64 up.num, .bool true, .int .i64 up.links, .string ⟨List.toArray (encE up.names)⟩] 41)) := (Mod.refl _ w1).alloc _
    have HUB : RowKit.Hid (World.blk (w1.alloc (.cells #[.int .i64 up.num, .bool true, .int .i64 up.links, .string ⟨List.toArray (encE up.names)⟩] 41)) w1.heap.size #[.int .i64 up.num, .bool true, .int .i64 up.links, .string ⟨List.toArray (encE up.names)⟩] 41) := Lib.hid (blk_new _ _ _)
    have HCB2 := Lib.hid (blk_mod hkU (blk_mod hk1 HCB.out id) id)
    have HR1 := Lib.hid (HR.out.keep hk1)
    have HR2 := Lib.hid (HR1.out.keep hkU)
    have HK2 := Lib.hid ((HK0.out.keep hk1).keep hkU)
    have hT60 : T.length ≤ 60 := HW.out.many
    have hTi : (T.length : Int) ≤ 60 := by omega
    obtain ⟨a, tcap, hb, _⟩ := HR2.out.row
    rw [told_len] at hb
    have t0 : World.cell? (w1.alloc (.cells #[.int .i64 up.num, .bool true, .int .i64 up.links, .string ⟨List.toArray (encE up.names)⟩] 41)) ⟨t, 0, none⟩ = some (.slice a T.length tcap) := blk_cell hb 0
    clear hr hp hp7 hok hf hgk hdk hns h60 hdd hk1 hkU hb
    have hksz : t < (w1.alloc (.cells #[.int .i64 up.num, .bool true, .int .i64 up.links, .string ⟨List.toArray (encE up.names)⟩] 41)).heap.size := blk_lt (Classical.choose_spec (Classical.choose_spec HR2.out.row)).1
    have Htl := Lib.hid hksz
    have HTU : RowKit.Hid (¬ w1.heap.size = t) := Lib.hid (by
      have h := blk_lt (Classical.choose_spec (Classical.choose_spec HR1.out.row)).1
      omega)
    clear hksz
    by_cases hb : 60 ≤ T.length
    · have Hv : RowKit.Hid (makesT T c = (T, 145)) := Lib.hid (by rw [Hv0.out, if_pos hb])
      have hb2 : (60 : Int) ≤ T.length := by omega
      clear hb
      go_wp2_with fail
      go_ret
      rw [Hv.out]
      exact ⟨rfl, HR2.out, HK2.out.mono (fun _ _ h => h.elim)⟩
    · have Hv : RowKit.Hid (makesT T c = ((Tr.add ⟨freshT T T.length 2, c.kind == 1, 1, [], []⟩ T).named k (putN s (freshT T T.length 2)), 0)) := Lib.hid (by rw [Hv0.out, if_neg hb])
      have hb2 : ¬ (60 : Int) ≤ T.length := by omega
      have Hb := Lib.hid hb
      clear hb
      go_wp2_with fail
      generalize (w1.alloc (.cells #[.int .i64 up.num, .bool true, .int .i64 up.links, .string ⟨List.toArray (encE up.names)⟩] 41)) = w2 at *
      generalize w1.heap.size = ub at *
      go_loopw [8] (fun i wr => ∃ (f : Nat) (k : Int), f ≤ T.length ∧ i = .int .i64 k ∧ k = 2 + (T.length : Int) - f ∧ RowKit.Hid (freshT T T.length 2 = freshT T f k) ∧ Keep w2 wr) (fun i _ => (2 + (T.length : Int) - intOf i).toNat)
      case atStart => exact ⟨T.length, 2, Nat.le_refl _, rfl, by omega, Lib.hid rfl, Mod.refl _ _⟩
      case round =>
        obtain ⟨f, i, hf, rfl, hi, Hfr, hK⟩ := hrel
        have hib : 0 ≤ i ∧ i ≤ 100 := by have := Hb.out; omega
        have Hi := Lib.hid hi
        have HK := Lib.hid hK
        have HRr := Lib.hid (HR2.out.keep hK)
        clear hi hK
        go_wp2_with fail
        refine (rnode_any (l := toldT T) HRr.out (by rw [told_len]; omega) i).mono ?_
        cases hg : T.get i with
        | some n =>
          obtain ⟨mi, hmi, hidx⟩ := idx_some HW.out.sorted hg
          rw [hidx]
          rintro e w3 ⟨rfl, hk3⟩
          have HK3 := Lib.hid (HK.out.keep hk3)
          have hf1 : 1 ≤ f := by
            rcases Nat.eq_zero_or_pos f with h0 | h0
            · have := fresh_free HW.out Hfr.out h0
              rw [hg] at this; cases this
            · exact h0
          have Hfr2 : RowKit.Hid (freshT T T.length 2 = freshT T (f - 1) (i + 1)) := Lib.hid (by
            rw [Hfr.out]
            obtain ⟨g, rfl⟩ : ∃ g, f = g + 1 := ⟨f - 1, by omega⟩
            show (if (T.get i).isSome = true then freshT T g (i + 1) else i) = _
            rw [hg]; rfl)
          have hm0 : ¬ (mi : Int) < 0 := by omega
          have hm1 : (0 : Int) ≤ mi := by omega
          clear hg hmi hidx hk3
          go_wp2_with fail
          refine ⟨⟨f - 1, i + 1, by omega, by go_num, by have := Hi.out; omega, Hfr2, HK3.out⟩, by have := Hi.out; simp [intOf]; omega⟩
        | none =>
          rw [idx_none hg]
          rintro e w3 ⟨rfl, hk3⟩
          have HK3 := Lib.hid (HK.out.keep hk3)
          have Hnum : RowKit.Hid (freshT T T.length 2 = i) := Lib.hid (by
            rw [Hfr.out]
            cases f with
            | zero => rfl
            | succ g =>
              show (if (T.get i).isSome = true then freshT T g (i + 1) else i) = _
              rw [hg]; rfl)
          have Hgi := Lib.hid hg
          clear hg hf Hi Hfr hk3
          have HX : RowKit.Hid (World.blk (w3.alloc (.cells #[.int .i64 i, .bool false, .int .i64 1, .string ⟨#[]⟩] 41)) w3.heap.size #[.int .i64 i, .bool false, .int .i64 1, .string ⟨#[]⟩] 41) := Lib.hid (blk_new _ _ _)
          have hk34 : Keep w3 (w3.alloc (.cells #[.int .i64 i, .bool false, .int .i64 1, .string ⟨#[]⟩] 41)) := (Mod.refl _ w3).alloc _
          have HRX := Lib.hid ((HR2.out.keep HK3.out).keep hk34)
          have HUX := Lib.hid (blk_mod hk34 (blk_mod HK3.out HUB.out id) id)
          have HKX := Lib.hid ((HK2.out.keep HK3.out).keep hk34)
          have hub : ub < w3.heap.size := blk_lt (blk_mod HK3.out HUB.out id)
          have hub2 : w.heap.size < w3.heap.size := blk_lt (blk_mod HK3.out HCB2.out id)
          have ht3 : t < w3.heap.size := Nat.lt_of_lt_of_le Htl.out HK3.out.size
          have Hss := Lib.hid (And.intro hub (And.intro hub2 ht3))
          have htu : RowKit.Hid (¬ ub = t) := HTU
          clear hk34 hub hub2 ht3
          have z0 : World.cell? (w3.alloc (.cells #[.int .i64 i, .bool false, .int .i64 1, .string ⟨#[]⟩] 41)) ⟨w.heap.size, 0, none⟩ = some (.int .i64 c.kind) := blk_cell (blk_alloc (blk_mod HK3.out HCB2.out id) _) 0
          have f1 : World.frozen? (w3.alloc (.cells #[.int .i64 i, .bool false, .int .i64 1, .string ⟨#[]⟩] 41)) ⟨w3.heap.size, 1, none⟩ = false := blk_free HX.out _ rfl
          have f3 : World.frozen? (w3.alloc (.cells #[.int .i64 i, .bool false, .int .i64 1, .string ⟨#[]⟩] 41)) ⟨w3.heap.size, 3, none⟩ = false := blk_free HX.out _ rfl
          have x0 : World.cell? (w3.alloc (.cells #[.int .i64 i, .bool false, .int .i64 1, .string ⟨#[]⟩] 41)) ⟨w3.heap.size, 0, none⟩ = some (.int .i64 i) := blk_cell HX.out 0
          have x1 : World.cell? (w3.alloc (.cells #[.int .i64 i, .bool false, .int .i64 1, .string ⟨#[]⟩] 41)) ⟨w3.heap.size, 1, none⟩ = some (.bool false) := blk_cell HX.out 1
          have x2 : World.cell? (w3.alloc (.cells #[.int .i64 i, .bool false, .int .i64 1, .string ⟨#[]⟩] 41)) ⟨w3.heap.size, 2, none⟩ = some (.int .i64 1) := blk_cell HX.out 2
          have x3 : World.cell? (w3.alloc (.cells #[.int .i64 i, .bool false, .int .i64 1, .string ⟨#[]⟩] 41)) ⟨w3.heap.size, 3, none⟩ = some (.string ⟨#[]⟩) := blk_cell HX.out 3
          rcases HKd.out with hk0 | hk1
          · rw [hk0] at z0
            have Hv2 : RowKit.Hid (makesT T c = ((Tr.add ⟨i, false, 1, [], []⟩ T).named k (putN s i), 0)) := Lib.hid (by rw [Hv.out, Hnum.out, hk0]; rfl)
            clear hk0
            go_wp2_with fail
            have HX4 : RowKit.Hid (World.blk (w3.alloc (.cells #[.int .i64 i, .bool false, .int .i64 1, .string ⟨#[]⟩] 41)) w3.heap.size #[.int .i64 i, .bool false, .int .i64 1, .string ⟨#[]⟩] 41) := Lib.hid (blk_new _ _ _)
            have hk34 : Keep w3 (w3.alloc (.cells #[.int .i64 i, .bool false, .int .i64 1, .string ⟨#[]⟩] 41)) := (Mod.refl _ w3).alloc _
            have HR4 := Lib.hid ((HR2.out.keep HK3.out).keep hk34)
            have HU4 := Lib.hid (blk_mod hk34 (blk_mod HK3.out HUB.out id) id)
            have HK4 := Lib.hid ((HK2.out.keep HK3.out).keep hk34)
            have hot : ¬ w3.heap.size = t := by have := Hss.out.2.2; omega
            clear hk34 HRX HUX HKX z0 f1 f3 x0 x1 x2 x3 HX
            generalize (w3.alloc (.cells #[.int .i64 i, .bool false, .int .i64 1, .string ⟨#[]⟩] 41)) = w4 at *
            generalize w3.heap.size = ob at *
            have hfree : ∀ m ∈ T, m.num ≠ i := get_none.1 Hgi.out
            refine (rput_any (l := toldT T) HR4.out (by rw [told_len]; omega) ⟨i, false, 1, []⟩).mono ?_
            rw [show goPut ⟨i, false, 1, []⟩ false (toldT T) = toldT (Tr.add ⟨i, false, 1, [], []⟩ T) from put_add (n0 := ⟨i, false, 1, [], []⟩) hfree HW.out.sorted]
            rintro e w5 ⟨rfl, hr5, hm5⟩
            have HR5 := Lib.hid hr5
            have HM5 : RowKit.Hid (Mod (· = t) w w5) := Lib.hid ((HK4.out.mono (fun _ _ h => h.elim)).trans hm5 (fun i _ h => h))
            have u0 : w5.cell? ⟨ub, 0, none⟩ = some (.int .i64 up.num) := blk_cell (blk_mod hm5 HU4.out htu.out) 0
            clear hr5 hm5
            go_wp2_with fail
            obtain ⟨hgk, hdk, hns, h60, hok, hdd, hq7⟩ := Hup.out
            obtain ⟨hkm, hkn⟩ := (get_iff HW.out.sorted).1 hgk
            have hki : k ≠ i := fun e => by rw [e, Hgi.out] at hgk; cases hgk
            have hsl : s.length ≤ 16 := by
              simp only [nameOk, Bool.and_eq_true, decide_eq_true_eq] at hok
              exact hok.1.1.2
            have hs1 : Sorted (Tr.add ⟨i, false, 1, [], []⟩ T) := add_sorted HW.out.sorted hfree
            have hg1 : (Tr.add ⟨i, false, 1, [], []⟩ T).get k = some up := by rw [get_add HW.out.sorted hfree, if_neg hki]; exact hgk
            have hin : 2 ≤ i := by rw [← Hnum.out]; exact HW.out.fresh.2.1
            have hep : entsOk (putN s i up.names) = true := by
              obtain ⟨d', hw'⟩ := wf_makes HW.out c
              rw [Hv2.out] at hw'
              have h2 : ((Tr.add ⟨i, false, 1, [], []⟩ T).named k (putN s i)).get k = some { up with names := putN s i up.names } := by rw [get_named, if_pos rfl, hg1]; rfl
              exact hw'.ents ((get_iff hw'.sorted).1 h2).1
            rw [hkn]
            have hcall := rnamed_any (T := Tr.add ⟨i, false, 1, [], []⟩ T) HR5.out hs1 (by rw [add_len]; omega) hg1 hdk (HW.out.ents hkm) (by omega) s hsl i ⟨by omega, by omega⟩ (by rw [nameF_put (by omega)]; exact hep)
            rw [nameF_put (by omega)] at hcall
            refine hcall.mono ?_
            clear hcall
            rintro e w6 ⟨rfl, hr6, hm6⟩
            have HR6 := Lib.hid hr6
            have HM6 : RowKit.Hid (Mod (· = t) w w6) := Lib.hid (HM5.out.trans hm6 (fun i _ h => h))
            clear hr6 hm6 u0 hep hg1 hgk hdk hns h60 hok hdd hq7 hkm hkn hki hsl hs1 hin hfree
            go_wp2_with fail
            go_ret
            rw [Hv2.out]
            exact ⟨rfl, HR6.out, HM6.out⟩
          · rw [hk1] at z0
            have Hv2 : RowKit.Hid (makesT T c = ((Tr.add ⟨i, true, 1, [], []⟩ T).named k (putN s i), 0)) := Lib.hid (by rw [Hv.out, Hnum.out, hk1]; rfl)
            clear hk1
            go_wp2_with fail
            have HX4 : RowKit.Hid (World.blk (w3.alloc (.cells #[.int .i64 i, .bool true, .int .i64 1, .string ⟨#[0]⟩] 41)) w3.heap.size #[.int .i64 i, .bool true, .int .i64 1, .string ⟨#[0]⟩] 41) := Lib.hid (blk_new _ _ _)
            have hk34 : Keep w3 (w3.alloc (.cells #[.int .i64 i, .bool true, .int .i64 1, .string ⟨#[0]⟩] 41)) := (Mod.refl _ w3).alloc _
            have HR4 := Lib.hid ((HR2.out.keep HK3.out).keep hk34)
            have HU4 := Lib.hid (blk_mod hk34 (blk_mod HK3.out HUB.out id) id)
            have HK4 := Lib.hid ((HK2.out.keep HK3.out).keep hk34)
            have hot : ¬ w3.heap.size = t := by have := Hss.out.2.2; omega
            clear hk34 HRX HUX HKX z0 f1 f3 x0 x1 x2 x3 HX
            generalize (w3.alloc (.cells #[.int .i64 i, .bool true, .int .i64 1, .string ⟨#[0]⟩] 41)) = w4 at *
            generalize w3.heap.size = ob at *
            have hfree : ∀ m ∈ T, m.num ≠ i := get_none.1 Hgi.out
            refine (rput_any (l := toldT T) HR4.out (by rw [told_len]; omega) ⟨i, true, 1, [0]⟩).mono ?_
            rw [show goPut ⟨i, true, 1, [0]⟩ false (toldT T) = toldT (Tr.add ⟨i, true, 1, [], []⟩ T) by
              have h := put_add (n0 := ⟨i, true, 1, [], []⟩) hfree HW.out.sorted
              rw [show Nd.told ⟨i, true, 1, [], []⟩ = ⟨i, true, 1, [0]⟩ by simp [Nd.told, encE, encN]] at h
              exact h]
            rintro e w5 ⟨rfl, hr5, hm5⟩
            have HR5 := Lib.hid hr5
            have HM5 : RowKit.Hid (Mod (· = t) w w5) := Lib.hid ((HK4.out.mono (fun _ _ h => h.elim)).trans hm5 (fun i _ h => h))
            have u0 : w5.cell? ⟨ub, 0, none⟩ = some (.int .i64 up.num) := blk_cell (blk_mod hm5 HU4.out htu.out) 0
            clear hr5 hm5
            go_wp2_with fail
            obtain ⟨hgk, hdk, hns, h60, hok, hdd, hq7⟩ := Hup.out
            obtain ⟨hkm, hkn⟩ := (get_iff HW.out.sorted).1 hgk
            have hki : k ≠ i := fun e => by rw [e, Hgi.out] at hgk; cases hgk
            have hsl : s.length ≤ 16 := by
              simp only [nameOk, Bool.and_eq_true, decide_eq_true_eq] at hok
              exact hok.1.1.2
            have hs1 : Sorted (Tr.add ⟨i, true, 1, [], []⟩ T) := add_sorted HW.out.sorted hfree
            have hg1 : (Tr.add ⟨i, true, 1, [], []⟩ T).get k = some up := by rw [get_add HW.out.sorted hfree, if_neg hki]; exact hgk
            have hin : 2 ≤ i := by rw [← Hnum.out]; exact HW.out.fresh.2.1
            have hep : entsOk (putN s i up.names) = true := by
              obtain ⟨d', hw'⟩ := wf_makes HW.out c
              rw [Hv2.out] at hw'
              have h2 : ((Tr.add ⟨i, true, 1, [], []⟩ T).named k (putN s i)).get k = some { up with names := putN s i up.names } := by rw [get_named, if_pos rfl, hg1]; rfl
              exact hw'.ents ((get_iff hw'.sorted).1 h2).1
            rw [hkn]
            have hcall := rnamed_any (T := Tr.add ⟨i, true, 1, [], []⟩ T) HR5.out hs1 (by rw [add_len]; omega) hg1 hdk (HW.out.ents hkm) (by omega) s hsl i ⟨by omega, by omega⟩ (by rw [nameF_put (by omega)]; exact hep)
            rw [nameF_put (by omega)] at hcall
            refine hcall.mono ?_
            clear hcall
            rintro e w6 ⟨rfl, hr6, hm6⟩
            have HR6 := Lib.hid hr6
            have HM6 : RowKit.Hid (Mod (· = t) w w6) := Lib.hid (HM5.out.trans hm6 (fun i _ h => h))
            clear hr6 hm6 u0 hep hg1 hgk hdk hns h60 hok hdd hq7 hkm hkn hki hsl hs1 hin hfree
            go_wp2_with fail
            go_ret
            rw [Hv2.out]
            exact ⟨rfl, HR6.out, HM6.out⟩
end
end
section
open Go.RowKit
section
variable {T : Tr} {d : Int → Nat} {off : Int → Int} {w : World} {t : Nat}
theorem prefix_slash (p s : List UInt8) : Lib.hasPrefix s (p ++ [47]) = (decide (p.length < s.length) && (s.take p.length == p) && (s[p.length]?.getD 0 == 47)) := by
  rw [← Lib.hasPrefix_of_take]
  by_cases h : p.length < s.length
  · have h1 : (p ++ [47]).length ≤ s.length := by simp; omega
    rw [decide_eq_true h1, decide_eq_true h, List.length_append, List.length_singleton, List.take_add_one, List.getElem?_eq_getElem h]
    simp only [Bool.true_and, Option.toList_some, Option.getD_some]
    rw [Bool.eq_iff_iff, beq_iff_eq, Bool.and_eq_true, beq_iff_eq, beq_iff_eq]
    constructor
    · intro e
      have := List.append_inj' e rfl
      exact ⟨this.1, by simpa using this.2⟩
    · rintro ⟨e1, e2⟩
      rw [e1, e2]
  · rw [decide_eq_false (by simp; omega), decide_eq_false h]; rfl
theorem run_cut_to (S : List UInt8) (j : Nat) (y : Int) (hy : y = j) (hj : j ≤ S.length) (W : World) : (Instr.slice 9 (.string ⟨S.toArray⟩) none (some (.int .i64 y)) none).run Tryz.prog W = .ok (.string ⟨(S.take j).toArray⟩) W := by
  subst hy
  have hs : (⟨S.toArray⟩ : ByteArray).size = S.length := by simp [ByteArray.size]
  rw [run_slice_string_h (ht := Tryz.underlying9) (h0 := by omega) (h2 := by rw [hs]; omega), Int.toNat_natCast]
  congr 2
  apply ByteArray.ext
  simp [List.extract_eq_take_drop]
theorem nameF_del {s : List UInt8} : nameF s 0 = delN s := by
  unfold nameF
  rw [show ((0 : Int) == 0) = true from rfl]
  funext l
  unfold goN
  rfl
set_option maxRecDepth 100000 in
set_option maxHeartbeats 8000000 in
theorem rrenames_any (h : RefAt w t (toldT T)) (hw : WF T d) (c : Cmd) (hc : c.Small) :
    Calls Tryz.prog 49 #[.pointer (some ⟨t, 0, none⟩), cmdV c] w fun e w' => e = .returned (.int .i64 (renamesT T c).2) ∧ RefAt w' t (toldT (renamesT T c).1) ∧ Mod (· = t) w w' := by
  have HC := Lib.hid hc
  have hk0 : Keep w (w.alloc (.cells (cmdC c) 38)) := (Mod.refl _ w).alloc _
  have HR := Lib.hid (h.keep hk0)
  have HW := Lib.hid hw
  have HCB : RowKit.Hid (World.blk (w.alloc (.cells (cmdC c) 38)) w.heap.size (cmdC c) 38) := Lib.hid (blk_new _ _ _)
  clear h hw hc hk0
  by_cases hroot : c.path = [47]
  · have hq : (c.path == [47]) = true := beq_iff_eq.2 hroot
    have Hv : RowKit.Hid (renamesT T c = (T, 144)) := Lib.hid (by rw [renamesT, if_pos hroot])
    clear hroot
    go_enter Tryz.func49, Tryz.ntmps49
    unfold cmdV cmdC
    go_wp2_with fail
    go_ret
    rw [Hv.out]
    exact ⟨rfl, HR.out, ((Mod.refl (fun _ => False) w).alloc _).mono (fun _ _ h => h.elim)⟩
  · have hq : (c.path == [47]) = false := beq_false_of_ne hroot
    have Hroot := Lib.hid hroot
    clear hroot
    go_enter Tryz.func49, Tryz.ntmps49
    unfold cmdV cmdC
    go_wp2_with fail
    unfold cmdC at HR HCB
    have HK0 : RowKit.Hid (Keep w (w.alloc (.cells #[.int .i64 c.kind, .string ⟨c.path.toArray⟩, .string ⟨c.dest.toArray⟩, .int .i64 c.pos, .string ⟨c.data.toArray⟩] 38))) := Lib.hid ((Mod.refl _ w).alloc _)
    generalize w.alloc (.cells #[.int .i64 c.kind, .string ⟨c.path.toArray⟩, .string ⟨c.dest.toArray⟩, .int .i64 c.pos, .string ⟨c.data.toArray⟩] 38) = w0 at *
    refine (rget_any HR.out HW.out c.path HC.out.path).mono ?_
    rintro e w1 ⟨rfl, hk⟩
    have HCB1 := Lib.hid (blk_mod hk HCB.out id)
    have HR1 := Lib.hid (HR.out.keep hk)
    have HK1 := Lib.hid (HK0.out.keep hk)
    clear hk HCB HR HK0
    rcases node_cases HW.out c.path with ⟨e, ha, hn, hne⟩ | ⟨j, n, ha, hg, hn⟩
    · rw [hn]
      unfold getV
      have Hv : RowKit.Hid (renamesT T c = (T, e)) := Lib.hid (by rw [renamesT, if_neg Hroot.out, ha])
      clear ha hn
      go_wp2_with fail
      go_ret
      rw [Hv.out]
      exact ⟨rfl, HR1.out.keep (by first | exact (Mod.refl _ _).alloc _ | exact Mod.refl _ _), (by first | exact (HK1.out.alloc _).mono (fun _ _ h => h.elim) | exact HK1.out.mono (fun _ _ h => h.elim))⟩
    · rw [hn]
      unfold getV
      obtain ⟨q, s, o, up, hpo, hfj, hfo, hgo, hdo, hs⟩ := last_ok HW.out ha Hroot.out
      have Hg := Lib.hid hg
      have Hup := Lib.hid (And.intro hgo (And.intro hdo hs))
      have Hpo := Lib.hid hpo
      have Hfo := Lib.hid hfo
      have Ha := Lib.hid ha
      have Hnum : RowKit.Hid (n.num = j) := Lib.hid ((get_iff HW.out.sorted).1 hg).2
      have Hsl := Lib.hid ((names_small hpo).2 s (by simp))
      have hk2 : Keep w1 (w1.alloc (.cells #[.int .i64 n.told.num, .bool n.told.dir, .int .i64 n.told.links, .string ⟨n.told.data.toArray⟩] 41)) := (Mod.refl _ w1).alloc _
      have HXB : RowKit.Hid (World.blk (w1.alloc (.cells #[.int .i64 n.told.num, .bool n.told.dir, .int .i64 n.told.links, .string ⟨n.told.data.toArray⟩] 41)) w1.heap.size #[.int .i64 n.told.num, .bool n.told.dir, .int .i64 n.told.links, .string ⟨n.told.data.toArray⟩] 41) := Lib.hid (blk_new _ _ _)
      have HCB2 := Lib.hid (blk_mod hk2 HCB1.out id)
      have HR2 := Lib.hid (HR1.out.keep hk2)
      have HK2 := Lib.hid (HK1.out.keep hk2)
      have HTX : RowKit.Hid (¬ w1.heap.size = t) := Lib.hid (by
        have h := blk_lt (Classical.choose_spec (Classical.choose_spec HR1.out.row)).1
        omega)
      have z1 : World.cell? (w1.alloc (.cells #[.int .i64 n.told.num, .bool n.told.dir, .int .i64 n.told.links, .string ⟨n.told.data.toArray⟩] 41)) ⟨w.heap.size, 1, none⟩ = some (.string ⟨c.path.toArray⟩) := blk_cell HCB2.out 1
      have z2 : World.cell? (w1.alloc (.cells #[.int .i64 n.told.num, .bool n.told.dir, .int .i64 n.told.links, .string ⟨n.told.data.toArray⟩] 41)) ⟨w.heap.size, 2, none⟩ = some (.string ⟨c.dest.toArray⟩) := blk_cell HCB2.out 2
      clear ha hn hg hpo hfj hfo hgo hdo hs hk2
      go_wp2_with fail
      generalize (w1.alloc (.cells #[.int .i64 n.told.num, .bool n.told.dir, .int .i64 n.told.links, .string ⟨n.told.data.toArray⟩] 41)) = w2 at *
      generalize w1.heap.size = ob at *
      have hpx := prefix_slash c.path c.dest
      by_cases hb : Lib.hasPrefix c.dest (c.path ++ [47]) = true
      · have Hv : RowKit.Hid (renamesT T c = (T, 144)) := Lib.hid (by rw [renamesT, if_neg Hroot.out, Ha.out]; simp only [hb, if_true])
        rw [hb] at hpx
        simp only [eq_comm (a := true), Bool.and_eq_true, decide_eq_true_eq, beq_iff_eq] at hpx
        obtain ⟨⟨hb1, hb2⟩, hb3⟩ := hpx
        have hi1 : (c.path.length : Int) < c.dest.length := by omega
        have hi2 : (c.path.length : Int) ≤ c.dest.length := by omega
        have hi3 : (0 : Int) ≤ c.path.length := by omega
        have hix : c.dest[c.path.length]? = some 47 := by rw [List.getElem?_eq_getElem hb1] at hb3 ⊢; simpa using hb3
        have hq1 : (c.dest.take c.path.length == c.path) = true := beq_iff_eq.2 hb2
        have hixr : ∀ W, (Instr.index 9 (.string ⟨c.dest.toArray⟩) (.int .i64 (c.path.length : Int))).run Tryz.prog W = .ok (.int .u8 47) W := fun W => run_index_str Tryz.underlying9 c.dest .i64 (c.path.length : Nat) 47 (by omega) hix W
        have hcut : ∀ W, (Instr.slice 9 (.string ⟨c.dest.toArray⟩) none (some (.int .i64 (c.path.length : Int))) none).run Tryz.prog W = .ok (.string ⟨c.path.toArray⟩) W := fun W => by
          have h := run_cut_to c.dest c.path.length _ rfl (by omega) W
          rw [hb2] at h; exact h
        clear hb hb3 hb2 hix hb1 hq1
        refine wp_region_qe0 (by kernel_rfl) (by kernel_rfl) ?_
        repeat (go_big_quiet_step (fail))
        refine wpQuiet_nil ?_
        intro _ hw'
        obtain ⟨nq, rfl⟩ := hw'
        go_wp2_with fail
        go_ret
        rw [Hv.out]
        exact ⟨rfl, HR2.out.keep ((Mod.refl _ w2).drewN nq), (HK2.out.drewN nq).mono (fun _ _ h => h.elim)⟩
      · have hb0 : Lib.hasPrefix c.dest (c.path ++ [47]) = false := by simpa using hb
        have Hpx := Lib.hid hb0
        rw [hb0] at hpx
        clear hb hb0
        have hi3 : (0 : Int) ≤ c.path.length := by omega
        rcases (by
          by_cases h1 : c.path.length < c.dest.length
          · by_cases h2 : c.dest.take c.path.length = c.path
            · refine .inr (.inr ⟨h1, h2, ?_⟩)
              rw [decide_eq_true h1, beq_iff_eq.2 h2] at hpx
              rw [List.getElem?_eq_getElem h1] at hpx
              simpa using hpx.symm
            · exact .inr (.inl ⟨h1, h2⟩)
          · exact .inl h1 : (¬ c.path.length < c.dest.length) ∨ (c.path.length < c.dest.length ∧ c.dest.take c.path.length ≠ c.path) ∨ (∃ h : c.path.length < c.dest.length, c.dest.take c.path.length = c.path ∧ ¬ c.dest[c.path.length] = 47)) with h1 | ⟨h1, h2⟩ | ⟨h1, h2, h3⟩
        · have hi1 : ¬ (c.path.length : Int) < c.dest.length := by omega
          clear hpx h1
          refine wp_region_qe0 (by kernel_rfl) (by kernel_rfl) ?_
          repeat (go_big_quiet_step (fail))
          refine wpQuiet_nil ?_
          intro _ hw'
          obtain ⟨nq, rfl⟩ := hw'
          go_wp2_with fail
          have hkd : Keep w2 (w2.drewN nq) := (Mod.refl _ w2).drewN nq
          have HR3 := Lib.hid (HR2.out.keep hkd)
          have HXB3 := Lib.hid (blk_mod hkd HXB.out id)
          have HCB3 := Lib.hid (blk_mod hkd HCB2.out id)
          have HK3 := Lib.hid (HK2.out.keep hkd)
          clear hkd HR2 HXB HCB2 HK2 z1 z2
          generalize w2.drewN nq = w3 at *
          have z1 : w3.cell? ⟨w.heap.size, 1, none⟩ = some (.string ⟨c.path.toArray⟩) := blk_cell HCB3.out 1
          have z2 : w3.cell? ⟨w.heap.size, 2, none⟩ = some (.string ⟨c.dest.toArray⟩) := blk_cell HCB3.out 2
          go_wp2_with fail
          refine (rroom_any (T := T) HR3.out HW.out c.dest HC.out.dest).mono ?_
          cases hr : roomT T c.dest with
          | error e =>
            have hne : (e == 0) = false := by have := room_err hr; rw [beq_eq_false_iff_ne]; omega
            have Hv : RowKit.Hid (renamesT T c = (T, e)) := Lib.hid (by rw [renamesT, if_neg Hroot.out, Ha.out]; simp only [Hpx.out, hr]; rfl)
            rintro e1 w4 ⟨rfl, hk4⟩
            have HR4 := Lib.hid (HR3.out.keep hk4)
            have HK4 := Lib.hid (HK3.out.keep hk4)
            clear hr hk4 z1 z2
            unfold rroomV rroomE
            go_wp2_with fail
            go_ret
            rw [Hv.out]
            exact ⟨rfl, HR4.out.keep (by first | exact (Mod.refl _ _).alloc _ | exact Mod.refl _ _), (by first | exact (HK4.out.alloc _).mono (fun _ _ h => h.elim) | exact HK4.out.mono (fun _ _ h => h.elim))⟩
          | ok ks =>
            obtain ⟨k, s2⟩ := ks
            obtain ⟨q2, up2, hp2, hp7, hok, hf2, hgk, hdk, hn2, h60, hdd⟩ := room_ok HW.out hr
            have Hv0 : RowKit.Hid (renamesT T c = if 8 < (q2 ++ [s2]).length + deepT T 9 j then (T, 145) else ((T.named o (delN s)).named k (putN s2 j), 0)) := Lib.hid (by
              rw [renamesT, if_neg Hroot.out, Ha.out]
              simp only [Hpx.out, hr, hp2, Option.getD_some, Hpo.out, List.dropLast_concat, List.getLastD_concat, Hfo.out]
              rfl)
            have hsl2 : s2.length ≤ 16 := by
              simp only [nameOk, Bool.and_eq_true, decide_eq_true_eq] at hok
              exact hok.1.1.2
            have Hsl2 := Lib.hid hsl2
            have Hp2 := Lib.hid (And.intro hp2 hp7)
            have Hup2 := Lib.hid (And.intro hgk (And.intro hdk (And.intro hn2 h60)))
            have Hkn := Lib.hid ((get_iff HW.out.sorted).1 hgk).2
            rintro e1 w4 ⟨rfl, hk4⟩
            rw [show rroomV T (Except.ok (k, s2)) = .tuple #[nodeV ⟨up2.num, true, up2.links, encE up2.names⟩, .string ⟨s2.toArray⟩, .int .i64 0] by simp only [rroomV, hgk, Option.map_some, Option.getD_some]; unfold Nd.told; simp [hdk]]
            have hkU : Keep w4 (w4.alloc (.cells #[.int .i64 up2.num, .bool true, .int .i64 up2.links, .string ⟨List.toArray (encE up2.names)⟩] 41)) := (Mod.refl _ w4).alloc _
            have HUB : RowKit.Hid (World.blk (w4.alloc (.cells #[.int .i64 up2.num, .bool true, .int .i64 up2.links, .string ⟨List.toArray (encE up2.names)⟩] 41)) w4.heap.size #[.int .i64 up2.num, .bool true, .int .i64 up2.links, .string ⟨List.toArray (encE up2.names)⟩] 41) := Lib.hid (blk_new _ _ _)
            have HXB4 := Lib.hid (blk_mod hkU (blk_mod hk4 HXB3.out id) id)
            have HCB4 := Lib.hid (blk_mod hkU (blk_mod hk4 HCB3.out id) id)
            have HR4 := Lib.hid ((HR3.out.keep hk4).keep hkU)
            have HK4 := Lib.hid ((HK3.out.keep hk4).keep hkU)
            have HTU : RowKit.Hid (¬ w4.heap.size = t) := Lib.hid (by
              have h := blk_lt (Classical.choose_spec (Classical.choose_spec (HR3.out.keep hk4).row)).1
              omega)
            have z1 : World.cell? (w4.alloc (.cells #[.int .i64 up2.num, .bool true, .int .i64 up2.links, .string ⟨List.toArray (encE up2.names)⟩] 41)) ⟨w.heap.size, 1, none⟩ = some (.string ⟨c.path.toArray⟩) := blk_cell HCB4.out 1
            have z2 : World.cell? (w4.alloc (.cells #[.int .i64 up2.num, .bool true, .int .i64 up2.links, .string ⟨List.toArray (encE up2.names)⟩] 41)) ⟨w.heap.size, 2, none⟩ = some (.string ⟨c.dest.toArray⟩) := blk_cell HCB4.out 2
            clear hr hp2 hok hf2 hgk hdk hn2 h60 hdd hk4 hkU hp7 hsl2
            go_wp2_with fail
            generalize (w4.alloc (.cells #[.int .i64 up2.num, .bool true, .int .i64 up2.links, .string ⟨List.toArray (encE up2.names)⟩] 41)) = w5 at *
            generalize w4.heap.size = ub at *
            refine (rpath_any c.dest w5 HC.out.dest).mono ?_
            rintro e w6 ⟨v3, rfl, ho3, hk6⟩
            have hL : pathNames c.dest = q2 ++ [s2] := by rw [pathNames, Hp2.out.1]; rfl
            rw [hL] at ho3
            obtain ⟨a3, cap3, hv3⟩ := row_shape (row_strs ho3)
            rw [srow_len] at hv3
            obtain ⟨L2, hL2⟩ : ∃ L2, (q2 ++ [s2]).length = L2 := ⟨_, rfl⟩
            rw [hL2] at hv3
            subst hv3
            have HL2 := Lib.hid hL2
            have hLb : L2 ≤ 8 := by rw [← hL2]; have := Hp2.out.2; simp; omega
            obtain ⟨pe, hpe⟩ : ∃ pe, pathErr c.dest = pe := ⟨_, rfl⟩
            rw [hpe]
            have HR6 := Lib.hid (HR4.out.keep hk6)
            have HK6 := Lib.hid (HK4.out.keep hk6)
            have HXB6 := Lib.hid (blk_mod hk6 HXB4.out id)
            have HUB6 := Lib.hid (blk_mod hk6 HUB.out id)
            have HCB6 := Lib.hid (blk_mod hk6 HCB4.out id)
            have x0 : w6.cell? ⟨ob, 0, none⟩ = some (.int .i64 n.told.num) := blk_cell HXB6.out 0
            have x1 : w6.cell? ⟨ob, 1, none⟩ = some (.bool n.told.dir) := blk_cell HXB6.out 1
            have x2 : w6.cell? ⟨ob, 2, none⟩ = some (.int .i64 n.told.links) := blk_cell HXB6.out 2
            have x3 : w6.cell? ⟨ob, 3, none⟩ = some (.string ⟨n.told.data.toArray⟩) := blk_cell HXB6.out 3
            clear hL hpe ho3 hk6 z1 z2 HR4 HK4 HXB4 HCB4 HUB hL2
            go_wp2_with fail
            refine (rdeep_any HW.out 9 j n w6 HR6.out Hg.out (by omega) (by omega) (fun _ => by omega)).mono ?_
            rintro e w7 ⟨rfl, hk7⟩
            have HR7 := Lib.hid (HR6.out.keep hk7)
            have HK7 := Lib.hid (HK6.out.keep hk7)
            have HXB7 := Lib.hid (blk_mod hk7 HXB6.out id)
            have HUB7 := Lib.hid (blk_mod hk7 HUB6.out id)
            have HCB7 := Lib.hid (blk_mod hk7 HCB6.out id)
            have hdl := deep_le (T := T) 9 j
            obtain ⟨dv, hdv⟩ : ∃ dv, deepT T 9 j = dv := ⟨_, rfl⟩
            rw [hdv] at hdl Hv0
            rw [hdv]
            clear hk7 HR6 HK6 HXB6 HUB6 HCB6 hdv x0 x1 x2 x3
            have z1 : w7.cell? ⟨w.heap.size, 1, none⟩ = some (.string ⟨c.path.toArray⟩) := blk_cell HCB7.out 1
            by_cases h8 : 8 < L2 + dv
            · have Hv : RowKit.Hid (renamesT T c = (T, 145)) := Lib.hid (by rw [Hv0.out, HL2.out, if_pos h8])
              have h8' : (8 : Int) < (L2 : Int) + (dv : Int) := by omega
              clear h8
              go_wp2_with fail
              go_ret
              rw [Hv.out]
              exact ⟨rfl, HR7.out, HK7.out.mono (fun _ _ h => h.elim)⟩
            · have Hv : RowKit.Hid (renamesT T c = ((T.named o (delN s)).named k (putN s2 j), 0)) := Lib.hid (by rw [Hv0.out, HL2.out, if_neg h8])
              have h8' : ¬ (8 : Int) < (L2 : Int) + (dv : Int) := by omega
              clear h8
              go_wp2_with fail
              refine (rup_any (T := T) HR7.out HW.out c.path HC.out.path Hpo.out Hfo.out Hup.out.1).mono ?_
              rintro e w8 ⟨rfl, hk8⟩
              have HR8 := Lib.hid (HR7.out.keep hk8)
              have HK8 := Lib.hid (HK7.out.keep hk8)
              have HXB8 := Lib.hid (blk_mod hk8 HXB7.out id)
              have HUB8 := Lib.hid (blk_mod hk8 HUB7.out id)
              clear hk8 HR7 HK7 HXB7 HUB7 HCB7 z1 h8'
              go_wp2_with fail
              obtain ⟨hom, hon⟩ := (get_iff HW.out.sorted).1 Hup.out.1
              have hw1 := wf_del HW.out Hup.out.1 Hup.out.2.2
              have hg1 : (T.named o (delN s)).get o = some { up with names := delN s up.names } := by rw [get_named, if_pos rfl, Hup.out.1]; rfl
              have hde : entsOk (nameF s 0 up.names) = true := by rw [nameF_del]; exact hw1.ents ((get_iff hw1.sorted).1 hg1).1
              have hcall := rnamed_any (T := T) HR8.out HW.out.sorted (by have := HW.out.many; omega) Hup.out.1 Hup.out.2.1 (HW.out.ents hom) (HW.out.names up hom).1 s Hsl.out 0 ⟨by omega, by omega⟩ hde
              rw [nameF_del] at hcall
              refine hcall.mono ?_
              clear hcall hg1 hde
              rintro e w9 ⟨rfl, hr9, hm9⟩
              have HR9 := Lib.hid hr9
              have HM9 : RowKit.Hid (Mod (· = t) w w9) := Lib.hid ((HK8.out.mono (fun _ _ h => h.elim)).trans hm9 (fun i _ h => h))
              have HXB9 := Lib.hid (blk_mod hm9 HXB8.out HTX.out)
              have HUB9 := Lib.hid (blk_mod hm9 HUB8.out HTU.out)
              have u0 : w9.cell? ⟨ub, 0, none⟩ = some (.int .i64 up2.num) := blk_cell HUB9.out 0
              have x0 : w9.cell? ⟨ob, 0, none⟩ = some (.int .i64 n.told.num) := blk_cell HXB9.out 0
              rw [Hkn.out] at u0
              rw [show n.told.num = j from Hnum.out] at x0
              clear hr9 hm9 hom hon HR8 HK8 HXB8 HUB8 hw1
              go_wp2_with fail
              have hs6 : Sorted (T.named o (delN s)) := upd_sorted (fun _ => rfl) HW.out.sorted
              obtain ⟨up3, hg3, hd3, hl3, ho3⟩ : ∃ up3, (T.named o (delN s)).get k = some up3 ∧ up3.dir = true ∧ up3.names.length < 60 ∧ entsOk up3.names = true := by
                have hw1 := wf_del HW.out Hup.out.1 Hup.out.2.2
                rw [get_named]
                by_cases e : k = o
                · have hgo : (T.named o (delN s)).get k = some { up2 with names := delN s up2.names } := by rw [get_named, if_pos e, Hup2.out.1]; rfl
                  rw [if_pos e, Hup2.out.1]
                  exact ⟨_, rfl, Hup2.out.2.1, Nat.lt_of_le_of_lt (delG_len _ _) Hup2.out.2.2.2, hw1.ents ((get_iff hw1.sorted).1 hgo).1⟩
                · rw [if_neg e]; exact ⟨up2, Hup2.out.1, Hup2.out.2.1, Hup2.out.2.2.2, HW.out.ents ((get_iff HW.out.sorted).1 Hup2.out.1).1⟩
              obtain ⟨hjm, _⟩ := (get_iff HW.out.sorted).1 Hg.out
              have hnb := HW.out.nums n hjm
              rw [Hnum.out] at hnb
              have hep : entsOk (putN s2 j up3.names) = true := by
                obtain ⟨d', hw'⟩ := wf_renames HW.out c
                rw [Hv.out] at hw'
                have h2 : ((T.named o (delN s)).named k (putN s2 j)).get k = some { up3 with names := putN s2 j up3.names } := by rw [get_named, if_pos rfl, hg3]; rfl
                exact hw'.ents ((get_iff hw'.sorted).1 h2).1
              have hlen : (T.named o (delN s)).length ≤ 100 := by have := HW.out.many; unfold Tr.named; rw [upd_len]; omega
              have hcall := rnamed_any (T := T.named o (delN s)) HR9.out hs6 hlen hg3 hd3 ho3 (by omega) s2 Hsl2.out j ⟨by omega, hnb.2⟩ (by rw [nameF_put (by omega)]; exact hep)
              rw [nameF_put (by omega)] at hcall
              refine hcall.mono ?_
              clear hcall
              rintro e w10 ⟨rfl, hr10, hm10⟩
              have HR10 := Lib.hid hr10
              have HM10 : RowKit.Hid (Mod (· = t) w w10) := Lib.hid (HM9.out.trans hm10 (fun i _ h => h))
              clear hr10 hm10 u0 x0 hep hg3 hd3 hl3 ho3 hs6 hjm hnb hlen
              go_wp2_with fail
              go_ret
              rw [Hv.out]
              exact ⟨rfl, HR10.out, HM10.out⟩
        · have hi1 : (c.path.length : Int) < c.dest.length := by omega
          have hcut : ∀ W, (Instr.slice 9 (.string ⟨c.dest.toArray⟩) none (some (.int .i64 (c.path.length : Int))) none).run Tryz.prog W = .ok (.string ⟨(c.dest.take c.path.length).toArray⟩) W := fun W => run_cut_to c.dest c.path.length _ rfl (by omega) W
          have hq1 : (c.dest.take c.path.length == c.path) = false := beq_false_of_ne h2
          generalize c.dest.take c.path.length = cut at *
          clear hpx h1 h2
          refine wp_region_qe0 (by kernel_rfl) (by kernel_rfl) ?_
          repeat (go_big_quiet_step (fail))
          refine wpQuiet_nil ?_
          intro _ hw'
          obtain ⟨nq, rfl⟩ := hw'
          go_wp2_with fail
          have hkd : Keep w2 (w2.drewN nq) := (Mod.refl _ w2).drewN nq
          have HR3 := Lib.hid (HR2.out.keep hkd)
          have HXB3 := Lib.hid (blk_mod hkd HXB.out id)
          have HCB3 := Lib.hid (blk_mod hkd HCB2.out id)
          have HK3 := Lib.hid (HK2.out.keep hkd)
          clear hkd HR2 HXB HCB2 HK2 z1 z2
          generalize w2.drewN nq = w3 at *
          have z1 : w3.cell? ⟨w.heap.size, 1, none⟩ = some (.string ⟨c.path.toArray⟩) := blk_cell HCB3.out 1
          have z2 : w3.cell? ⟨w.heap.size, 2, none⟩ = some (.string ⟨c.dest.toArray⟩) := blk_cell HCB3.out 2
          go_wp2_with fail
          refine (rroom_any (T := T) HR3.out HW.out c.dest HC.out.dest).mono ?_
          cases hr : roomT T c.dest with
          | error e =>
            have hne : (e == 0) = false := by have := room_err hr; rw [beq_eq_false_iff_ne]; omega
            have Hv : RowKit.Hid (renamesT T c = (T, e)) := Lib.hid (by rw [renamesT, if_neg Hroot.out, Ha.out]; simp only [Hpx.out, hr]; rfl)
            rintro e1 w4 ⟨rfl, hk4⟩
            have HR4 := Lib.hid (HR3.out.keep hk4)
            have HK4 := Lib.hid (HK3.out.keep hk4)
            clear hr hk4 z1 z2
            unfold rroomV rroomE
            go_wp2_with fail
            go_ret
            rw [Hv.out]
            exact ⟨rfl, HR4.out.keep (by first | exact (Mod.refl _ _).alloc _ | exact Mod.refl _ _), (by first | exact (HK4.out.alloc _).mono (fun _ _ h => h.elim) | exact HK4.out.mono (fun _ _ h => h.elim))⟩
          | ok ks =>
            obtain ⟨k, s2⟩ := ks
            obtain ⟨q2, up2, hp2, hp7, hok, hf2, hgk, hdk, hn2, h60, hdd⟩ := room_ok HW.out hr
            have Hv0 : RowKit.Hid (renamesT T c = if 8 < (q2 ++ [s2]).length + deepT T 9 j then (T, 145) else ((T.named o (delN s)).named k (putN s2 j), 0)) := Lib.hid (by
              rw [renamesT, if_neg Hroot.out, Ha.out]
              simp only [Hpx.out, hr, hp2, Option.getD_some, Hpo.out, List.dropLast_concat, List.getLastD_concat, Hfo.out]
              rfl)
            have hsl2 : s2.length ≤ 16 := by
              simp only [nameOk, Bool.and_eq_true, decide_eq_true_eq] at hok
              exact hok.1.1.2
            have Hsl2 := Lib.hid hsl2
            have Hp2 := Lib.hid (And.intro hp2 hp7)
            have Hup2 := Lib.hid (And.intro hgk (And.intro hdk (And.intro hn2 h60)))
            have Hkn := Lib.hid ((get_iff HW.out.sorted).1 hgk).2
            rintro e1 w4 ⟨rfl, hk4⟩
            rw [show rroomV T (Except.ok (k, s2)) = .tuple #[nodeV ⟨up2.num, true, up2.links, encE up2.names⟩, .string ⟨s2.toArray⟩, .int .i64 0] by simp only [rroomV, hgk, Option.map_some, Option.getD_some]; unfold Nd.told; simp [hdk]]
            have hkU : Keep w4 (w4.alloc (.cells #[.int .i64 up2.num, .bool true, .int .i64 up2.links, .string ⟨List.toArray (encE up2.names)⟩] 41)) := (Mod.refl _ w4).alloc _
            have HUB : RowKit.Hid (World.blk (w4.alloc (.cells #[.int .i64 up2.num, .bool true, .int .i64 up2.links, .string ⟨List.toArray (encE up2.names)⟩] 41)) w4.heap.size #[.int .i64 up2.num, .bool true, .int .i64 up2.links, .string ⟨List.toArray (encE up2.names)⟩] 41) := Lib.hid (blk_new _ _ _)
            have HXB4 := Lib.hid (blk_mod hkU (blk_mod hk4 HXB3.out id) id)
            have HCB4 := Lib.hid (blk_mod hkU (blk_mod hk4 HCB3.out id) id)
            have HR4 := Lib.hid ((HR3.out.keep hk4).keep hkU)
            have HK4 := Lib.hid ((HK3.out.keep hk4).keep hkU)
            have HTU : RowKit.Hid (¬ w4.heap.size = t) := Lib.hid (by
              have h := blk_lt (Classical.choose_spec (Classical.choose_spec (HR3.out.keep hk4).row)).1
              omega)
            have z1 : World.cell? (w4.alloc (.cells #[.int .i64 up2.num, .bool true, .int .i64 up2.links, .string ⟨List.toArray (encE up2.names)⟩] 41)) ⟨w.heap.size, 1, none⟩ = some (.string ⟨c.path.toArray⟩) := blk_cell HCB4.out 1
            have z2 : World.cell? (w4.alloc (.cells #[.int .i64 up2.num, .bool true, .int .i64 up2.links, .string ⟨List.toArray (encE up2.names)⟩] 41)) ⟨w.heap.size, 2, none⟩ = some (.string ⟨c.dest.toArray⟩) := blk_cell HCB4.out 2
            clear hr hp2 hok hf2 hgk hdk hn2 h60 hdd hk4 hkU hp7 hsl2
            go_wp2_with fail
            generalize (w4.alloc (.cells #[.int .i64 up2.num, .bool true, .int .i64 up2.links, .string ⟨List.toArray (encE up2.names)⟩] 41)) = w5 at *
            generalize w4.heap.size = ub at *
            refine (rpath_any c.dest w5 HC.out.dest).mono ?_
            rintro e w6 ⟨v3, rfl, ho3, hk6⟩
            have hL : pathNames c.dest = q2 ++ [s2] := by rw [pathNames, Hp2.out.1]; rfl
            rw [hL] at ho3
            obtain ⟨a3, cap3, hv3⟩ := row_shape (row_strs ho3)
            rw [srow_len] at hv3
            obtain ⟨L2, hL2⟩ : ∃ L2, (q2 ++ [s2]).length = L2 := ⟨_, rfl⟩
            rw [hL2] at hv3
            subst hv3
            have HL2 := Lib.hid hL2
            have hLb : L2 ≤ 8 := by rw [← hL2]; have := Hp2.out.2; simp; omega
            obtain ⟨pe, hpe⟩ : ∃ pe, pathErr c.dest = pe := ⟨_, rfl⟩
            rw [hpe]
            have HR6 := Lib.hid (HR4.out.keep hk6)
            have HK6 := Lib.hid (HK4.out.keep hk6)
            have HXB6 := Lib.hid (blk_mod hk6 HXB4.out id)
            have HUB6 := Lib.hid (blk_mod hk6 HUB.out id)
            have HCB6 := Lib.hid (blk_mod hk6 HCB4.out id)
            have x0 : w6.cell? ⟨ob, 0, none⟩ = some (.int .i64 n.told.num) := blk_cell HXB6.out 0
            have x1 : w6.cell? ⟨ob, 1, none⟩ = some (.bool n.told.dir) := blk_cell HXB6.out 1
            have x2 : w6.cell? ⟨ob, 2, none⟩ = some (.int .i64 n.told.links) := blk_cell HXB6.out 2
            have x3 : w6.cell? ⟨ob, 3, none⟩ = some (.string ⟨n.told.data.toArray⟩) := blk_cell HXB6.out 3
            clear hL hpe ho3 hk6 z1 z2 HR4 HK4 HXB4 HCB4 HUB hL2
            go_wp2_with fail
            refine (rdeep_any HW.out 9 j n w6 HR6.out Hg.out (by omega) (by omega) (fun _ => by omega)).mono ?_
            rintro e w7 ⟨rfl, hk7⟩
            have HR7 := Lib.hid (HR6.out.keep hk7)
            have HK7 := Lib.hid (HK6.out.keep hk7)
            have HXB7 := Lib.hid (blk_mod hk7 HXB6.out id)
            have HUB7 := Lib.hid (blk_mod hk7 HUB6.out id)
            have HCB7 := Lib.hid (blk_mod hk7 HCB6.out id)
            have hdl := deep_le (T := T) 9 j
            obtain ⟨dv, hdv⟩ : ∃ dv, deepT T 9 j = dv := ⟨_, rfl⟩
            rw [hdv] at hdl Hv0
            rw [hdv]
            clear hk7 HR6 HK6 HXB6 HUB6 HCB6 hdv x0 x1 x2 x3
            have z1 : w7.cell? ⟨w.heap.size, 1, none⟩ = some (.string ⟨c.path.toArray⟩) := blk_cell HCB7.out 1
            by_cases h8 : 8 < L2 + dv
            · have Hv : RowKit.Hid (renamesT T c = (T, 145)) := Lib.hid (by rw [Hv0.out, HL2.out, if_pos h8])
              have h8' : (8 : Int) < (L2 : Int) + (dv : Int) := by omega
              clear h8
              go_wp2_with fail
              go_ret
              rw [Hv.out]
              exact ⟨rfl, HR7.out, HK7.out.mono (fun _ _ h => h.elim)⟩
            · have Hv : RowKit.Hid (renamesT T c = ((T.named o (delN s)).named k (putN s2 j), 0)) := Lib.hid (by rw [Hv0.out, HL2.out, if_neg h8])
              have h8' : ¬ (8 : Int) < (L2 : Int) + (dv : Int) := by omega
              clear h8
              go_wp2_with fail
              refine (rup_any (T := T) HR7.out HW.out c.path HC.out.path Hpo.out Hfo.out Hup.out.1).mono ?_
              rintro e w8 ⟨rfl, hk8⟩
              have HR8 := Lib.hid (HR7.out.keep hk8)
              have HK8 := Lib.hid (HK7.out.keep hk8)
              have HXB8 := Lib.hid (blk_mod hk8 HXB7.out id)
              have HUB8 := Lib.hid (blk_mod hk8 HUB7.out id)
              clear hk8 HR7 HK7 HXB7 HUB7 HCB7 z1 h8'
              go_wp2_with fail
              obtain ⟨hom, hon⟩ := (get_iff HW.out.sorted).1 Hup.out.1
              have hw1 := wf_del HW.out Hup.out.1 Hup.out.2.2
              have hg1 : (T.named o (delN s)).get o = some { up with names := delN s up.names } := by rw [get_named, if_pos rfl, Hup.out.1]; rfl
              have hde : entsOk (nameF s 0 up.names) = true := by rw [nameF_del]; exact hw1.ents ((get_iff hw1.sorted).1 hg1).1
              have hcall := rnamed_any (T := T) HR8.out HW.out.sorted (by have := HW.out.many; omega) Hup.out.1 Hup.out.2.1 (HW.out.ents hom) (HW.out.names up hom).1 s Hsl.out 0 ⟨by omega, by omega⟩ hde
              rw [nameF_del] at hcall
              refine hcall.mono ?_
              clear hcall hg1 hde
              rintro e w9 ⟨rfl, hr9, hm9⟩
              have HR9 := Lib.hid hr9
              have HM9 : RowKit.Hid (Mod (· = t) w w9) := Lib.hid ((HK8.out.mono (fun _ _ h => h.elim)).trans hm9 (fun i _ h => h))
              have HXB9 := Lib.hid (blk_mod hm9 HXB8.out HTX.out)
              have HUB9 := Lib.hid (blk_mod hm9 HUB8.out HTU.out)
              have u0 : w9.cell? ⟨ub, 0, none⟩ = some (.int .i64 up2.num) := blk_cell HUB9.out 0
              have x0 : w9.cell? ⟨ob, 0, none⟩ = some (.int .i64 n.told.num) := blk_cell HXB9.out 0
              rw [Hkn.out] at u0
              rw [show n.told.num = j from Hnum.out] at x0
              clear hr9 hm9 hom hon HR8 HK8 HXB8 HUB8 hw1
              go_wp2_with fail
              have hs6 : Sorted (T.named o (delN s)) := upd_sorted (fun _ => rfl) HW.out.sorted
              obtain ⟨up3, hg3, hd3, hl3, ho3⟩ : ∃ up3, (T.named o (delN s)).get k = some up3 ∧ up3.dir = true ∧ up3.names.length < 60 ∧ entsOk up3.names = true := by
                have hw1 := wf_del HW.out Hup.out.1 Hup.out.2.2
                rw [get_named]
                by_cases e : k = o
                · have hgo : (T.named o (delN s)).get k = some { up2 with names := delN s up2.names } := by rw [get_named, if_pos e, Hup2.out.1]; rfl
                  rw [if_pos e, Hup2.out.1]
                  exact ⟨_, rfl, Hup2.out.2.1, Nat.lt_of_le_of_lt (delG_len _ _) Hup2.out.2.2.2, hw1.ents ((get_iff hw1.sorted).1 hgo).1⟩
                · rw [if_neg e]; exact ⟨up2, Hup2.out.1, Hup2.out.2.1, Hup2.out.2.2.2, HW.out.ents ((get_iff HW.out.sorted).1 Hup2.out.1).1⟩
              obtain ⟨hjm, _⟩ := (get_iff HW.out.sorted).1 Hg.out
              have hnb := HW.out.nums n hjm
              rw [Hnum.out] at hnb
              have hep : entsOk (putN s2 j up3.names) = true := by
                obtain ⟨d', hw'⟩ := wf_renames HW.out c
                rw [Hv.out] at hw'
                have h2 : ((T.named o (delN s)).named k (putN s2 j)).get k = some { up3 with names := putN s2 j up3.names } := by rw [get_named, if_pos rfl, hg3]; rfl
                exact hw'.ents ((get_iff hw'.sorted).1 h2).1
              have hlen : (T.named o (delN s)).length ≤ 100 := by have := HW.out.many; unfold Tr.named; rw [upd_len]; omega
              have hcall := rnamed_any (T := T.named o (delN s)) HR9.out hs6 hlen hg3 hd3 ho3 (by omega) s2 Hsl2.out j ⟨by omega, hnb.2⟩ (by rw [nameF_put (by omega)]; exact hep)
              rw [nameF_put (by omega)] at hcall
              refine hcall.mono ?_
              clear hcall
              rintro e w10 ⟨rfl, hr10, hm10⟩
              have HR10 := Lib.hid hr10
              have HM10 : RowKit.Hid (Mod (· = t) w w10) := Lib.hid (HM9.out.trans hm10 (fun i _ h => h))
              clear hr10 hm10 u0 x0 hep hg3 hd3 hl3 ho3 hs6 hjm hnb hlen
              go_wp2_with fail
              go_ret
              rw [Hv.out]
              exact ⟨rfl, HR10.out, HM10.out⟩
        · have hi1 : (c.path.length : Int) < c.dest.length := by omega
          have hcut : ∀ W, (Instr.slice 9 (.string ⟨c.dest.toArray⟩) none (some (.int .i64 (c.path.length : Int))) none).run Tryz.prog W = .ok (.string ⟨c.path.toArray⟩) W := fun W => by
            have h := run_cut_to c.dest c.path.length _ rfl (by omega) W
            rw [h2] at h; exact h
          obtain ⟨y, hy⟩ : ∃ y, c.dest[c.path.length] = y := ⟨_, rfl⟩
          rw [hy] at h3
          have hixr : ∀ W, (Instr.index 9 (.string ⟨c.dest.toArray⟩) (.int .i64 (c.path.length : Int))).run Tryz.prog W = .ok (.int .u8 (y.toNat : Int)) W := fun W => run_index_str Tryz.underlying9 c.dest .i64 (c.path.length : Nat) y (by omega) (by show c.dest[c.path.length]? = some y; rw [List.getElem?_eq_getElem h1, hy]) W
          have hy47 : ((y.toNat : Int) == 47) = false := by
            rw [beq_eq_false_iff_ne]
            intro e
            apply h3
            apply UInt8.toNat_inj.1
            have : (47 : UInt8).toNat = 47 := by decide
            omega
          clear hpx h1 h2 h3 hy
          refine wp_region_qe0 (by kernel_rfl) (by kernel_rfl) ?_
          repeat (go_big_quiet_step (fail))
          refine wpQuiet_nil ?_
          intro _ hw'
          obtain ⟨nq, rfl⟩ := hw'
          go_wp2_with fail
          have hkd : Keep w2 (w2.drewN nq) := (Mod.refl _ w2).drewN nq
          have HR3 := Lib.hid (HR2.out.keep hkd)
          have HXB3 := Lib.hid (blk_mod hkd HXB.out id)
          have HCB3 := Lib.hid (blk_mod hkd HCB2.out id)
          have HK3 := Lib.hid (HK2.out.keep hkd)
          clear hkd HR2 HXB HCB2 HK2 z1 z2
          generalize w2.drewN nq = w3 at *
          have z1 : w3.cell? ⟨w.heap.size, 1, none⟩ = some (.string ⟨c.path.toArray⟩) := blk_cell HCB3.out 1
          have z2 : w3.cell? ⟨w.heap.size, 2, none⟩ = some (.string ⟨c.dest.toArray⟩) := blk_cell HCB3.out 2
          go_wp2_with fail
          refine (rroom_any (T := T) HR3.out HW.out c.dest HC.out.dest).mono ?_
          cases hr : roomT T c.dest with
          | error e =>
            have hne : (e == 0) = false := by have := room_err hr; rw [beq_eq_false_iff_ne]; omega
            have Hv : RowKit.Hid (renamesT T c = (T, e)) := Lib.hid (by rw [renamesT, if_neg Hroot.out, Ha.out]; simp only [Hpx.out, hr]; rfl)
            rintro e1 w4 ⟨rfl, hk4⟩
            have HR4 := Lib.hid (HR3.out.keep hk4)
            have HK4 := Lib.hid (HK3.out.keep hk4)
            clear hr hk4 z1 z2
            unfold rroomV rroomE
            go_wp2_with fail
            go_ret
            rw [Hv.out]
            exact ⟨rfl, HR4.out.keep (by first | exact (Mod.refl _ _).alloc _ | exact Mod.refl _ _), (by first | exact (HK4.out.alloc _).mono (fun _ _ h => h.elim) | exact HK4.out.mono (fun _ _ h => h.elim))⟩
          | ok ks =>
            obtain ⟨k, s2⟩ := ks
            obtain ⟨q2, up2, hp2, hp7, hok, hf2, hgk, hdk, hn2, h60, hdd⟩ := room_ok HW.out hr
            have Hv0 : RowKit.Hid (renamesT T c = if 8 < (q2 ++ [s2]).length + deepT T 9 j then (T, 145) else ((T.named o (delN s)).named k (putN s2 j), 0)) := Lib.hid (by
              rw [renamesT, if_neg Hroot.out, Ha.out]
              simp only [Hpx.out, hr, hp2, Option.getD_some, Hpo.out, List.dropLast_concat, List.getLastD_concat, Hfo.out]
              rfl)
            have hsl2 : s2.length ≤ 16 := by
              simp only [nameOk, Bool.and_eq_true, decide_eq_true_eq] at hok
              exact hok.1.1.2
            have Hsl2 := Lib.hid hsl2
            have Hp2 := Lib.hid (And.intro hp2 hp7)
            have Hup2 := Lib.hid (And.intro hgk (And.intro hdk (And.intro hn2 h60)))
            have Hkn := Lib.hid ((get_iff HW.out.sorted).1 hgk).2
            rintro e1 w4 ⟨rfl, hk4⟩
            rw [show rroomV T (Except.ok (k, s2)) = .tuple #[nodeV ⟨up2.num, true, up2.links, encE up2.names⟩, .string ⟨s2.toArray⟩, .int .i64 0] by simp only [rroomV, hgk, Option.map_some, Option.getD_some]; unfold Nd.told; simp [hdk]]
            have hkU : Keep w4 (w4.alloc (.cells #[.int .i64 up2.num, .bool true, .int .i64 up2.links, .string ⟨List.toArray (encE up2.names)⟩] 41)) := (Mod.refl _ w4).alloc _
            have HUB : RowKit.Hid (World.blk (w4.alloc (.cells #[.int .i64 up2.num, .bool true, .int .i64 up2.links, .string ⟨List.toArray (encE up2.names)⟩] 41)) w4.heap.size #[.int .i64 up2.num, .bool true, .int .i64 up2.links, .string ⟨List.toArray (encE up2.names)⟩] 41) := Lib.hid (blk_new _ _ _)
            have HXB4 := Lib.hid (blk_mod hkU (blk_mod hk4 HXB3.out id) id)
            have HCB4 := Lib.hid (blk_mod hkU (blk_mod hk4 HCB3.out id) id)
            have HR4 := Lib.hid ((HR3.out.keep hk4).keep hkU)
            have HK4 := Lib.hid ((HK3.out.keep hk4).keep hkU)
            have HTU : RowKit.Hid (¬ w4.heap.size = t) := Lib.hid (by
              have h := blk_lt (Classical.choose_spec (Classical.choose_spec (HR3.out.keep hk4).row)).1
              omega)
            have z1 : World.cell? (w4.alloc (.cells #[.int .i64 up2.num, .bool true, .int .i64 up2.links, .string ⟨List.toArray (encE up2.names)⟩] 41)) ⟨w.heap.size, 1, none⟩ = some (.string ⟨c.path.toArray⟩) := blk_cell HCB4.out 1
            have z2 : World.cell? (w4.alloc (.cells #[.int .i64 up2.num, .bool true, .int .i64 up2.links, .string ⟨List.toArray (encE up2.names)⟩] 41)) ⟨w.heap.size, 2, none⟩ = some (.string ⟨c.dest.toArray⟩) := blk_cell HCB4.out 2
            clear hr hp2 hok hf2 hgk hdk hn2 h60 hdd hk4 hkU hp7 hsl2
            go_wp2_with fail
            generalize (w4.alloc (.cells #[.int .i64 up2.num, .bool true, .int .i64 up2.links, .string ⟨List.toArray (encE up2.names)⟩] 41)) = w5 at *
            generalize w4.heap.size = ub at *
            refine (rpath_any c.dest w5 HC.out.dest).mono ?_
            rintro e w6 ⟨v3, rfl, ho3, hk6⟩
            have hL : pathNames c.dest = q2 ++ [s2] := by rw [pathNames, Hp2.out.1]; rfl
            rw [hL] at ho3
            obtain ⟨a3, cap3, hv3⟩ := row_shape (row_strs ho3)
            rw [srow_len] at hv3
            obtain ⟨L2, hL2⟩ : ∃ L2, (q2 ++ [s2]).length = L2 := ⟨_, rfl⟩
            rw [hL2] at hv3
            subst hv3
            have HL2 := Lib.hid hL2
            have hLb : L2 ≤ 8 := by rw [← hL2]; have := Hp2.out.2; simp; omega
            obtain ⟨pe, hpe⟩ : ∃ pe, pathErr c.dest = pe := ⟨_, rfl⟩
            rw [hpe]
            have HR6 := Lib.hid (HR4.out.keep hk6)
            have HK6 := Lib.hid (HK4.out.keep hk6)
            have HXB6 := Lib.hid (blk_mod hk6 HXB4.out id)
            have HUB6 := Lib.hid (blk_mod hk6 HUB.out id)
            have HCB6 := Lib.hid (blk_mod hk6 HCB4.out id)
            have x0 : w6.cell? ⟨ob, 0, none⟩ = some (.int .i64 n.told.num) := blk_cell HXB6.out 0
            have x1 : w6.cell? ⟨ob, 1, none⟩ = some (.bool n.told.dir) := blk_cell HXB6.out 1
            have x2 : w6.cell? ⟨ob, 2, none⟩ = some (.int .i64 n.told.links) := blk_cell HXB6.out 2
            have x3 : w6.cell? ⟨ob, 3, none⟩ = some (.string ⟨n.told.data.toArray⟩) := blk_cell HXB6.out 3
            clear hL hpe ho3 hk6 z1 z2 HR4 HK4 HXB4 HCB4 HUB hL2
            go_wp2_with fail
            refine (rdeep_any HW.out 9 j n w6 HR6.out Hg.out (by omega) (by omega) (fun _ => by omega)).mono ?_
            rintro e w7 ⟨rfl, hk7⟩
            have HR7 := Lib.hid (HR6.out.keep hk7)
            have HK7 := Lib.hid (HK6.out.keep hk7)
            have HXB7 := Lib.hid (blk_mod hk7 HXB6.out id)
            have HUB7 := Lib.hid (blk_mod hk7 HUB6.out id)
            have HCB7 := Lib.hid (blk_mod hk7 HCB6.out id)
            have hdl := deep_le (T := T) 9 j
            obtain ⟨dv, hdv⟩ : ∃ dv, deepT T 9 j = dv := ⟨_, rfl⟩
            rw [hdv] at hdl Hv0
            rw [hdv]
            clear hk7 HR6 HK6 HXB6 HUB6 HCB6 hdv x0 x1 x2 x3
            have z1 : w7.cell? ⟨w.heap.size, 1, none⟩ = some (.string ⟨c.path.toArray⟩) := blk_cell HCB7.out 1
            by_cases h8 : 8 < L2 + dv
            · have Hv : RowKit.Hid (renamesT T c = (T, 145)) := Lib.hid (by rw [Hv0.out, HL2.out, if_pos h8])
              have h8' : (8 : Int) < (L2 : Int) + (dv : Int) := by omega
              clear h8
              go_wp2_with fail
              go_ret
              rw [Hv.out]
              exact ⟨rfl, HR7.out, HK7.out.mono (fun _ _ h => h.elim)⟩
            · have Hv : RowKit.Hid (renamesT T c = ((T.named o (delN s)).named k (putN s2 j), 0)) := Lib.hid (by rw [Hv0.out, HL2.out, if_neg h8])
              have h8' : ¬ (8 : Int) < (L2 : Int) + (dv : Int) := by omega
              clear h8
              go_wp2_with fail
              refine (rup_any (T := T) HR7.out HW.out c.path HC.out.path Hpo.out Hfo.out Hup.out.1).mono ?_
              rintro e w8 ⟨rfl, hk8⟩
              have HR8 := Lib.hid (HR7.out.keep hk8)
              have HK8 := Lib.hid (HK7.out.keep hk8)
              have HXB8 := Lib.hid (blk_mod hk8 HXB7.out id)
              have HUB8 := Lib.hid (blk_mod hk8 HUB7.out id)
              clear hk8 HR7 HK7 HXB7 HUB7 HCB7 z1 h8'
              go_wp2_with fail
              obtain ⟨hom, hon⟩ := (get_iff HW.out.sorted).1 Hup.out.1
              have hw1 := wf_del HW.out Hup.out.1 Hup.out.2.2
              have hg1 : (T.named o (delN s)).get o = some { up with names := delN s up.names } := by rw [get_named, if_pos rfl, Hup.out.1]; rfl
              have hde : entsOk (nameF s 0 up.names) = true := by rw [nameF_del]; exact hw1.ents ((get_iff hw1.sorted).1 hg1).1
              have hcall := rnamed_any (T := T) HR8.out HW.out.sorted (by have := HW.out.many; omega) Hup.out.1 Hup.out.2.1 (HW.out.ents hom) (HW.out.names up hom).1 s Hsl.out 0 ⟨by omega, by omega⟩ hde
              rw [nameF_del] at hcall
              refine hcall.mono ?_
              clear hcall hg1 hde
              rintro e w9 ⟨rfl, hr9, hm9⟩
              have HR9 := Lib.hid hr9
              have HM9 : RowKit.Hid (Mod (· = t) w w9) := Lib.hid ((HK8.out.mono (fun _ _ h => h.elim)).trans hm9 (fun i _ h => h))
              have HXB9 := Lib.hid (blk_mod hm9 HXB8.out HTX.out)
              have HUB9 := Lib.hid (blk_mod hm9 HUB8.out HTU.out)
              have u0 : w9.cell? ⟨ub, 0, none⟩ = some (.int .i64 up2.num) := blk_cell HUB9.out 0
              have x0 : w9.cell? ⟨ob, 0, none⟩ = some (.int .i64 n.told.num) := blk_cell HXB9.out 0
              rw [Hkn.out] at u0
              rw [show n.told.num = j from Hnum.out] at x0
              clear hr9 hm9 hom hon HR8 HK8 HXB8 HUB8 hw1
              go_wp2_with fail
              have hs6 : Sorted (T.named o (delN s)) := upd_sorted (fun _ => rfl) HW.out.sorted
              obtain ⟨up3, hg3, hd3, hl3, ho3⟩ : ∃ up3, (T.named o (delN s)).get k = some up3 ∧ up3.dir = true ∧ up3.names.length < 60 ∧ entsOk up3.names = true := by
                have hw1 := wf_del HW.out Hup.out.1 Hup.out.2.2
                rw [get_named]
                by_cases e : k = o
                · have hgo : (T.named o (delN s)).get k = some { up2 with names := delN s up2.names } := by rw [get_named, if_pos e, Hup2.out.1]; rfl
                  rw [if_pos e, Hup2.out.1]
                  exact ⟨_, rfl, Hup2.out.2.1, Nat.lt_of_le_of_lt (delG_len _ _) Hup2.out.2.2.2, hw1.ents ((get_iff hw1.sorted).1 hgo).1⟩
                · rw [if_neg e]; exact ⟨up2, Hup2.out.1, Hup2.out.2.1, Hup2.out.2.2.2, HW.out.ents ((get_iff HW.out.sorted).1 Hup2.out.1).1⟩
              obtain ⟨hjm, _⟩ := (get_iff HW.out.sorted).1 Hg.out
              have hnb := HW.out.nums n hjm
              rw [Hnum.out] at hnb
              have hep : entsOk (putN s2 j up3.names) = true := by
                obtain ⟨d', hw'⟩ := wf_renames HW.out c
                rw [Hv.out] at hw'
                have h2 : ((T.named o (delN s)).named k (putN s2 j)).get k = some { up3 with names := putN s2 j up3.names } := by rw [get_named, if_pos rfl, hg3]; rfl
                exact hw'.ents ((get_iff hw'.sorted).1 h2).1
              have hlen : (T.named o (delN s)).length ≤ 100 := by have := HW.out.many; unfold Tr.named; rw [upd_len]; omega
              have hcall := rnamed_any (T := T.named o (delN s)) HR9.out hs6 hlen hg3 hd3 ho3 (by omega) s2 Hsl2.out j ⟨by omega, hnb.2⟩ (by rw [nameF_put (by omega)]; exact hep)
              rw [nameF_put (by omega)] at hcall
              refine hcall.mono ?_
              clear hcall
              rintro e w10 ⟨rfl, hr10, hm10⟩
              have HR10 := Lib.hid hr10
              have HM10 : RowKit.Hid (Mod (· = t) w w10) := Lib.hid (HM9.out.trans hm10 (fun i _ h => h))
              clear hr10 hm10 u0 x0 hep hg3 hd3 hl3 ho3 hs6 hjm hnb hlen
              go_wp2_with fail
              go_ret
              rw [Hv.out]
              exact ⟨rfl, HR10.out, HM10.out⟩
end
end
end Go.Proofs.YthmpblccplphfaaGreatDoor
