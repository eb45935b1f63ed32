/-
  files: makes.
-/
import Derived.Test.YthmpblccplphfaaGreatDoorFilDoA
import Derived.Carry
namespace Go.Proofs.YthmpblccplphfaaGreatDoor
open Go.RowKit
section
variable {w : World} {p tb : Nat} {T : Tr} {A M : Int → Nat} {role : Nat → Role} {d : Int → Nat}
theorem fresh_free (h : WF T d) {f : Nat} {k : Int} (e : freshT T T.length 2 = freshT T f k) : f = 0 → T.get k = none := by
  intro h0
  subst h0
  have := h.fresh.1
  rw [e] at this; exact this
set_option maxRecDepth 100000 in
set_option maxHeartbeats 8000000 in
theorem makes_any (h : TreeAt w p T tb A M role) (hw : WF T d) (he : Env w) (c : Cmd) (hc : c.Small) (hk : c.kind = 0 ∨ c.kind = 1) :
    Calls Tryz.prog 37 #[.pointer (some ⟨p, 0, none⟩), cmdV c] w fun e w' => e = .returned (.int .i64 (makesT T c).2) ∧ Turned w w' p tb role (makesT T c).1 := by
  have HC := Lib.hid hc
  have hk0 : Keep w (w.alloc (.cells (cmdC c) 38)) := (Mod.refl _ w).alloc _
  have HT := Lib.hid (h.keep hk0)
  have HW := Lib.hid hw
  have He := Lib.hid (he.keep hk0)
  have HT0 := Lib.hid h
  have HCB : RowKit.Hid (World.blk (w.alloc (.cells (cmdC c) 38)) w.heap.size (cmdC c) 38) := Lib.hid (blk_new _ _ _)
  have HKd := Lib.hid hk
  clear h hw he hc hk0 hk
  go_enter Tryz.func37, Tryz.ntmps37
  unfold cmdV cmdC
  go_wp2_with fail
  unfold cmdC at HT He HCB
  have HK0 : RowKit.Hid (Keep w (w.alloc (.cells #[.int .i64 c.kind, .string ⟨c.path.toArray⟩, .string ⟨c.dest.toArray⟩, .int .i64 c.pos, .string ⟨c.data.toArray⟩] 38))) := Lib.hid ((Mod.refl _ w).alloc _)
  generalize w.alloc (.cells #[.int .i64 c.kind, .string ⟨c.path.toArray⟩, .string ⟨c.dest.toArray⟩, .int .i64 c.pos, .string ⟨c.data.toArray⟩] 38) = w0 at *
  refine (room_any HT.out HW.out He.out c.path HC.out.path).mono ?_
  rintro e w1 ⟨rfl, hk⟩
  have HCB1 := Lib.hid (blk_mod hk HCB.out id)
  have HT1 := Lib.hid (HT.out.keep hk)
  have HK1 := Lib.hid (HK0.out.keep hk)
  clear hk HCB HT He HK0
  cases hr : roomT T c.path with
  | error e =>
    have hne : (e == 0) = false := by have := room_err hr; rw [beq_eq_false_iff_ne]; omega
    have Hv : RowKit.Hid (makesT T c = (T, e)) := Lib.hid (by rw [makesT, hr])
    clear hr
    unfold roomV
    go_wp2_with fail
    go_ret
    exact ⟨by rw [Hv.out]; rfl, by rw [Hv.out]; exact Turned.same HT0.out HK1.out⟩
  | ok x =>
    obtain ⟨k, s⟩ := x
    obtain ⟨q, up, hp, hp7, hok, hf, hgk, hdk, hn, h60, hdd⟩ := room_ok HW.out hr
    have hsl : s.length ≤ 16 := by
      simp only [nameOk, Bool.and_eq_true, decide_eq_true_eq] at hok
      exact hok.1.1.2
    have Hup := Lib.hid (And.intro hgk (And.intro hdk (And.intro hn h60)))
    have c0 : w1.cell? ⟨p, 0, none⟩ = some (.map (some tb)) := blk_cell HT1.out.tree 0
    have hlen := fun ty => MapO.len (tm := 62) HT1.out.of Tryz.underlying62 ty
    have hla : (addrs T A).length = T.length := by simp [addrs]
    rw [hla] at hlen
    have Hr := Lib.hid hr
    clear hr hp hp7 hok hf hgk hdk hn h60 hdd hla
    unfold roomV
    by_cases hb : 60 ≤ T.length
    · have Hv : RowKit.Hid (makesT T c = (T, 145)) := Lib.hid (by rw [makesT, Hr.out]; simp only [hb, if_true])
      have hb2 : (60 : Int) ≤ T.length := by omega
      clear hb
      go_wp2_with fail
      go_ret
      exact ⟨by rw [Hv.out]; rfl, by rw [Hv.out]; exact Turned.same HT0.out HK1.out⟩
    · have Hv : RowKit.Hid (makesT T c = ((Tr.add ⟨freshT T T.length 2, c.kind == 1, 1, [], []⟩ T).named k (putN s (freshT T T.length 2)), 0)) := Lib.hid (by rw [makesT, Hr.out]; simp only [hb, if_false])
      have hb2 : ¬ (60 : Int) ≤ T.length := by omega
      have Hb := Lib.hid hb
      clear hb
      go_wp2_with fail
      go_loop [8] (fun i => ∃ (f : Nat) (k : Int), f ≤ T.length ∧ i = .int .i64 k ∧ k = 2 + (T.length : Int) - f ∧ RowKit.Hid (freshT T T.length 2 = freshT T f k)) (fun i => (2 + (T.length : Int) - intOf i).toNat)
      case atStart => exact ⟨T.length, 2, Nat.le_refl _, rfl, by omega, Lib.hid rfl⟩
      case round =>
        obtain ⟨f, i, hf, rfl, hi, Hfr⟩ := hrel
        have hib : 0 ≤ i ∧ i ≤ 100 := by have := Hb.out; omega
        have Hi := Lib.hid hi
        clear hi
        have r1 := MapO.look1 (tm := 62) HT1.out.of Tryz.underlying62 Tryz.underlying3 (zero_node w1) i (by omega)
        rw [addrs_get] at r1
        cases hg : T.get i with
        | some n =>
          rw [hg] at r1
          simp only [Option.map_some] at r1
          have hf1 : 1 ≤ f := by
            rcases Nat.eq_zero_or_pos f with h0 | h0
            · have := fresh_free HW.out Hfr.out h0
              rw [hg] at this; cases this
            · exact h0
          have Hfr2 : RowKit.Hid (freshT T T.length 2 = freshT T (f - 1) (i + 1)) := Lib.hid (by
            rw [Hfr.out]
            obtain ⟨g, rfl⟩ : ∃ g, f = g + 1 := ⟨f - 1, by omega⟩
            show (if (T.get i).isSome = true then freshT T g (i + 1) else i) = _
            rw [hg]; rfl)
          clear hg
          go_wp2_with fail
          go_round
          case rel => exact ⟨f - 1, i + 1, by omega, rfl, by have := Hi.out; omega, Hfr2⟩
          case measure => have := Hi.out; simp [intOf]; omega
        | none =>
          rw [hg] at r1
          simp only [Option.map_none] at r1
          have Hnum : RowKit.Hid (freshT T T.length 2 = i) := Lib.hid (by
            rw [Hfr.out]
            cases f with
            | zero => rfl
            | succ g =>
              show (if (T.get i).isSome = true then freshT T g (i + 1) else i) = _
              rw [hg]; rfl)
          have Hgi := Lib.hid hg
          have z0 : w1.cell? ⟨w.heap.size, 0, none⟩ = some (.int .i64 c.kind) := blk_cell HCB1.out 0
          have hlt0 : w.heap.size < w1.heap.size := blk_lt HCB1.out
          have hltp : p < w1.heap.size := blk_lt HT1.out.tree
          have hmm := @run_makeMap Tryz.prog
          clear hg hf Hi Hfr hlen
          rcases HKd.out with hk0 | hk1
          · have Hv2 : RowKit.Hid (makesT T c = ((Tr.add ⟨i, false, 1, [], []⟩ T).named k (putN s i), 0)) := Lib.hid (by
              rw [Hv.out, Hnum.out, hk0]; rfl)
            rw [hk0] at z0
            have hki : k ≠ i := fun e => by have := Hup.out.1; rw [e, Hgi.out] at this; cases this
            have Hki := Lib.hid hki
            have tok1 : True := trivial
            clear hki hk0
            go_wp2_with (first
              | (at_mapUpdate
                 have _t := tok1
                 refine wpList_store_O (HT1.out.of.mod ((Mod.refl (fun _ => False) w1).alloc _) id) Tryz.underlying62 Tryz.underlying3 i (by omega) w1.heap.size (by have := Hb.out; simp [addrs]; omega) rfl rfl rfl rfl rfl ?_
                 intro w2 hm2 hmod2
                 have hnt : w1.heap.size ≠ tb := fun e => by have := HT1.out.of.lt; omega
                 have hmodB : Mod (· = tb) w1 w2 := ((Mod.refl (fun x => x = tb) w1).alloc _).trans hmod2 (fun _ _ h => h)
                 have hnode : World.blk w2 w1.heap.size (cellsN ⟨i, false, 1, [], []⟩ (w1.heap.size + 1)) 70 := blk_mod hmod2 (blk_new _ _ _) hnt
                 have ht2 := tree_add (n0 := ⟨i, false, 1, [], []⟩) (a := w1.heap.size) (m := w1.heap.size + 1) HT1.out (get_none.1 Hgi.out) hmodB (Nat.le_refl _) (by omega) (by omega) (blk_lt hnode) (fun h => by cases h) hm2 hnode (fun h => by cases h)
                 have hs2 : Sorted (Tr.add ⟨i, false, 1, [], []⟩ T) := add_sorted HW.out.sorted (get_none.1 Hgi.out)
                 have hg2 : (Tr.add ⟨i, false, 1, [], []⟩ T).get k = some up := by rw [get_add HW.out.sorted (get_none.1 Hgi.out), if_neg Hki.out]; exact Hup.out.1
                 have e4 : w2.cell? ⟨A k, 4, none⟩ = some (.map (some (M k))) := by
                   have h := ht2.cell hs2 hg2 4
                   simp only [if_neg Hki.out] at h
                   rw [h]
                   show some (Value.map (if up.dir = true then some (M k) else none)) = _
                   rw [if_pos Hup.out.2.1]
                 have hmapN := ht2.names up ((get_iff hs2).1 hg2).1 Hup.out.2.1
                 have hupn : up.num = k := ((get_iff hs2).1 hg2).2
                 rw [hupn] at hmapN
                 simp only [if_neg Hki.out] at hmapN
                 have HMN := Lib.hid hmapN
                 have HT2 := Lib.hid ht2
                 have HS2 := Lib.hid hs2
                 have HG2 := Lib.hid hg2
                 have HM2 : RowKit.Hid (Mod (fun b => role b ≠ .none) w w2) := Lib.hid ((HK1.out.mono (fun _ _ h => h.elim)).trans hmodB (fun j hj e => by rw [e, HT0.out.rof]; exact Role.noConfusion))
                 clear tok1 hm2 hmod2 hnt hmodB hnode ht2 hs2 hg2 hmapN hupn)
              | (at_mapUpdate
                 refine wpList_store_N HMN.out Tryz.underlying68 Tryz.underlying9 Tryz.underlying3 s (by omega) i (by omega) (by have := Hup.out.2.2.2; omega) rfl rfl rfl rfl rfl ?_
                 intro w3 hm3 hmod3
                 have hm3' := hm3
                 have ht3 := tree_named (f := putN s i) HT2.out HS2.out HG2.out Hup.out.2.1 (by simp only [if_neg Hki.out]; exact hmod3) (by simp only [if_neg Hki.out]; exact hm3)
                 have HT3 := Lib.hid ht3
                 have HM3 : RowKit.Hid (Mod (fun b => role b ≠ .none) w w3) := Lib.hid (HM2.out.trans hmod3 (fun j hj e => by
                   have hr := HT0.out.rnames up ((get_iff HW.out.sorted).1 Hup.out.1).1 Hup.out.2.1
                   rw [((get_iff HW.out.sorted).1 Hup.out.1).2] at hr
                   rw [e, hr]; exact Role.noConfusion))
                 clear hm3 hm3' hmod3 ht3 e4))
            go_ret
            refine ⟨by rw [Hv2.out]; rfl, ?_⟩
            rw [Hv2.out]
            refine ⟨_, _, _, HT3.out, fun b hb => ?_, HM3.out⟩
            have hsz := HK1.out.size
            by_cases e1 : b = w1.heap.size
            · exact .inr (by omega)
            · by_cases e2 : b = w1.heap.size + 1
              · exact .inr (by omega)
              · left
                rw [if_neg e1, if_neg (fun h => e2 h.1)] at hb
                exact hb
          · have Hv2 : RowKit.Hid (makesT T c = ((Tr.add ⟨i, true, 1, [], []⟩ T).named k (putN s i), 0)) := Lib.hid (by
              rw [Hv.out, Hnum.out, hk1]; rfl)
            rw [hk1] at z0
            have hki : k ≠ i := fun e => by have := Hup.out.1; rw [e, Hgi.out] at this; cases this
            have Hki := Lib.hid hki
            have tok1 : True := trivial
            clear hki hk1
            go_wp2_with (first
              | (at_mapUpdate
                 have _t := tok1
                 refine wpList_store_O (HT1.out.of.mod (((Mod.refl (fun _ => False) w1).alloc _).alloc _) id) Tryz.underlying62 Tryz.underlying3 i (by omega) w1.heap.size (by have := Hb.out; simp [addrs]; omega) rfl rfl rfl rfl rfl ?_
                 intro w2 hm2 hmod2
                 have hnt : w1.heap.size ≠ tb := fun e => by have := HT1.out.of.lt; omega
                 have hmodB : Mod (· = tb) w1 w2 := (((Mod.refl (fun x => x = tb) w1).alloc _).alloc _).trans hmod2 (fun _ _ h => h)
                 have hnode : World.blk w2 w1.heap.size (cellsN ⟨i, true, 1, [], []⟩ (w1.heap.size + 1)) 70 := blk_mod hmod2 (blk_alloc (blk_new _ _ _) _) hnt
                 have ht2 := tree_add (n0 := ⟨i, true, 1, [], []⟩) (a := w1.heap.size) (m := w1.heap.size + 1) HT1.out (get_none.1 Hgi.out) hmodB (Nat.le_refl _) (by omega) (by omega) (blk_lt hnode) (fun _ => by have := hmod2.size; simp at this; omega) hm2 hnode (fun _ => (MapN.made' (by simp) ()).mod hmod2 (fun e => by have := HT1.out.of.lt; omega))
                 have hs2 : Sorted (Tr.add ⟨i, true, 1, [], []⟩ T) := add_sorted HW.out.sorted (get_none.1 Hgi.out)
                 have hg2 : (Tr.add ⟨i, true, 1, [], []⟩ T).get k = some up := by rw [get_add HW.out.sorted (get_none.1 Hgi.out), if_neg Hki.out]; exact Hup.out.1
                 have e4 : w2.cell? ⟨A k, 4, none⟩ = some (.map (some (M k))) := by
                   have h := ht2.cell hs2 hg2 4
                   simp only [if_neg Hki.out] at h
                   rw [h]
                   show some (Value.map (if up.dir = true then some (M k) else none)) = _
                   rw [if_pos Hup.out.2.1]
                 have hmapN := ht2.names up ((get_iff hs2).1 hg2).1 Hup.out.2.1
                 have hupn : up.num = k := ((get_iff hs2).1 hg2).2
                 rw [hupn] at hmapN
                 simp only [if_neg Hki.out] at hmapN
                 have HMN := Lib.hid hmapN
                 have HT2 := Lib.hid ht2
                 have HS2 := Lib.hid hs2
                 have HG2 := Lib.hid hg2
                 have HM2 : RowKit.Hid (Mod (fun b => role b ≠ .none) w w2) := Lib.hid ((HK1.out.mono (fun _ _ h => h.elim)).trans hmodB (fun j hj e => by rw [e, HT0.out.rof]; exact Role.noConfusion))
                 clear tok1 hm2 hmod2 hnt hmodB hnode ht2 hs2 hg2 hmapN hupn)
              | (at_mapUpdate
                 refine wpList_store_N HMN.out Tryz.underlying68 Tryz.underlying9 Tryz.underlying3 s (by omega) i (by omega) (by have := Hup.out.2.2.2; omega) rfl rfl rfl rfl rfl ?_
                 intro w3 hm3 hmod3
                 have hm3' := hm3
                 have ht3 := tree_named (f := putN s i) HT2.out HS2.out HG2.out Hup.out.2.1 (by simp only [if_neg Hki.out]; exact hmod3) (by simp only [if_neg Hki.out]; exact hm3)
                 have HT3 := Lib.hid ht3
                 have HM3 : RowKit.Hid (Mod (fun b => role b ≠ .none) w w3) := Lib.hid (HM2.out.trans hmod3 (fun j hj e => by
                   have hr := HT0.out.rnames up ((get_iff HW.out.sorted).1 Hup.out.1).1 Hup.out.2.1
                   rw [((get_iff HW.out.sorted).1 Hup.out.1).2] at hr
                   rw [e, hr]; exact Role.noConfusion))
                 clear hm3 hm3' hmod3 ht3 e4))
            go_ret
            refine ⟨by rw [Hv2.out]; rfl, ?_⟩
            rw [Hv2.out]
            refine ⟨_, _, _, HT3.out, fun b hb => ?_, HM3.out⟩
            have hsz := HK1.out.size
            by_cases e1 : b = w1.heap.size
            · exact .inr (by omega)
            · by_cases e2 : b = w1.heap.size + 1
              · exact .inr (by omega)
              · left
                rw [if_neg e1, if_neg (fun h => e2 h.1)] at hb
                exact hb
end
end Go.Proofs.YthmpblccplphfaaGreatDoor
