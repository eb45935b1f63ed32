/-
  files: New, Do.
-/
import Derived.Test.YthmpblccplphfaaGreatDoorFilDoB
import Derived.Test.YthmpblccplphfaaGreatDoorFilDoC
import Derived.Test.YthmpblccplphfaaGreatDoorFilDoF
namespace Go.Proofs.YthmpblccplphfaaGreatDoor
open Go.RowKit
set_option maxRecDepth 100000 in
set_option maxHeartbeats 1000000 in
theorem new_any (w : World) : Calls Tryz.prog 16 #[] w fun e w' => ∃ p tb A M role, e = .returned (.pointer (some ⟨p, 0, none⟩)) ∧ TreeAt w' p Tr.new tb A M role ∧ (∀ b, role b ≠ .none → w.heap.size ≤ b) ∧ Keep w w' := by
  have hmm := @run_makeMap Tryz.prog
  have hk3 : Keep (w.alloc (.map #[] 0)) (((w.alloc (.map #[] 0)).alloc (.map #[] 0)).alloc (.cells #[.int .i64 1, .bool true, .int .i64 1, .string ⟨#[]⟩, .map (some (w.heap.size + 1))] 70)) := ((Mod.refl _ _).alloc _).alloc _
  have hmap : MapP (((w.alloc (.map #[] 0)).alloc (.map #[] 0)).alloc (.cells #[.int .i64 1, .bool true, .int .i64 1, .string ⟨#[]⟩, .map (some (w.heap.size + 1))] 70)) w.heap.size [] := (MapO.made w).mod hk3 id
  have hnm : MapS (((w.alloc (.map #[] 0)).alloc (.map #[] 0)).alloc (.cells #[.int .i64 1, .bool true, .int .i64 1, .string ⟨#[]⟩, .map (some (w.heap.size + 1))] 70)) (w.heap.size + 1) [] := (MapN.made' (by simp) ()).mod ((Mod.refl (fun _ => False) _).alloc _) id
  have hnode : World.blk (((w.alloc (.map #[] 0)).alloc (.map #[] 0)).alloc (.cells #[.int .i64 1, .bool true, .int .i64 1, .string ⟨#[]⟩, .map (some (w.heap.size + 1))] 70)) (w.heap.size + 1 + 1) #[.int .i64 1, .bool true, .int .i64 1, .string ⟨#[]⟩, .map (some (w.heap.size + 1))] 70 := blk_new_at (by simp) _ _
  obtain ⟨w4, hrun, hm4, hmod4⟩ := MapO.store hmap Tryz.underlying62 Tryz.underlying3 1 (by decide) (w.heap.size + 1 + 1) (by decide)
  have hsz := hmod4.size
  have HN4 := Lib.hid (hnm.mod hmod4 (by omega))
  have HD4 := Lib.hid (blk_mod hmod4 hnode (by omega))
  have HM4 := Lib.hid hm4
  have HK4 : RowKit.Hid (Keep w w4) := Lib.hid (((((Mod.refl (fun _ => False) w).alloc _).alloc _).alloc _).new hmod4 (Nat.le_refl _))
  simp at hsz
  clear hk3 hmap hnm hnode hm4 hmod4
  go_enter Tryz.func16, Tryz.ntmps16
  go_wp2_with fail
  go_ret
  obtain ⟨N, hN⟩ : ∃ N, w.heap.size = N := ⟨_, rfl⟩
  rw [hN] at HN4 HD4 HM4 hsz
  rw [hN]
  refine ⟨w4.heap.size, N, fun _ => N + 2, fun _ => N + 1, fun b => if b = w4.heap.size then .tree else if b = N then .of else if b = N + 2 then .node 1 else if b = N + 1 then .names 1 else .none, rfl, ⟨blk_new _ _ _, if_pos rfl, HM4.out.mod ((Mod.refl (fun _ => False) w4).alloc _) id, ?_, ?_, ?_, ?_, ?_, ?_⟩, ?_, HK4.out.alloc _⟩
  · rw [if_neg (by omega), if_pos rfl]
  · intro n hn
    rw [Tr.new, List.mem_singleton] at hn
    subst hn
    exact blk_alloc HD4.out _
  · intro n hn
    rw [Tr.new, List.mem_singleton] at hn
    subst hn
    show (if N + 2 = w4.heap.size then _ else _) = _
    rw [if_neg (by omega), if_neg (by omega), if_pos rfl]
  · intro n hn _
    rw [Tr.new, List.mem_singleton] at hn
    subst hn
    exact HN4.out.mod ((Mod.refl (fun _ => False) w4).alloc _) id
  · intro n hn _
    rw [Tr.new, List.mem_singleton] at hn
    subst hn
    show (if N + 1 = w4.heap.size then _ else _) = _
    rw [if_neg (by omega), if_neg (by omega), if_neg (by omega), if_pos rfl]
  · intro b hb
    simp only [World.alloc, Array.size_push]
    by_cases h1 : b = w4.heap.size
    · omega
    · by_cases h2 : b = N
      · omega
      · by_cases h3 : b = N + 2
        · omega
        · by_cases h4 : b = N + 1
          · omega
          · rw [if_neg h1, if_neg h2, if_neg h3, if_neg h4] at hb
            exact absurd rfl hb
  · intro b hb
    by_cases h1 : b = w4.heap.size
    · omega
    · by_cases h2 : b = N
      · omega
      · by_cases h3 : b = N + 2
        · omega
        · by_cases h4 : b = N + 1
          · omega
          · simp only [if_neg h1, if_neg h2, if_neg h3, if_neg h4] at hb
            exact absurd rfl hb
theorem Turned.from {w w1 w' : World} {p tb : Nat} {role : Nat → Role} {X : Tr} (k : Keep w w1) (h : Turned w1 w' p tb role X) : Turned w w' p tb role X := by
  obtain ⟨A', M', role', h1, h2, h3⟩ := h
  exact ⟨A', M', role', h1, fun b hb => (h2 b hb).imp id (fun h => Nat.le_trans k.size h), (k.mono (fun _ _ h => h.elim)).trans h3 (fun _ _ h => h)⟩
section
variable {w : World} {p tb : Nat} {T : Tr} {A M : Int → Nat} {role : Nat → Role} {d : Int → Nat}
set_option maxRecDepth 100000 in
set_option maxHeartbeats 8000000 in
theorem do_any (h : TreeAt w p T tb A M role) (hw : WF T d) (he : Env w) (c : Cmd) (hc : c.Small) :
    Calls Tryz.prog 17 #[.pointer (some ⟨p, 0, none⟩), cmdV c] w fun e w' => e = .returned (.int .i64 (doT T c).2) ∧ Turned w w' p tb role (doT T c).1 := by
  have HC := Lib.hid hc
  have hk0 : Keep w (w.alloc (.cells (cmdC c) 38)) := (Mod.refl _ w).alloc _
  have HT := Lib.hid (h.keep hk0)
  have HW := Lib.hid hw
  have He := Lib.hid (he.keep hk0)
  have HT0 := Lib.hid h
  have HCB : RowKit.Hid (World.blk (w.alloc (.cells (cmdC c) 38)) w.heap.size (cmdC c) 38) := Lib.hid (blk_new _ _ _)
  clear h hw he hc hk0
  go_enter Tryz.func17, Tryz.ntmps17
  unfold cmdV cmdC
  go_wp2_with fail
  unfold cmdC at HT He HCB
  have HK0 : RowKit.Hid (Keep w (w.alloc (.cells #[.int .i64 c.kind, .string ⟨c.path.toArray⟩, .string ⟨c.dest.toArray⟩, .int .i64 c.pos, .string ⟨c.data.toArray⟩] 38))) := Lib.hid ((Mod.refl _ w).alloc _)
  generalize w.alloc (.cells #[.int .i64 c.kind, .string ⟨c.path.toArray⟩, .string ⟨c.dest.toArray⟩, .int .i64 c.pos, .string ⟨c.data.toArray⟩] 38) = w0 at *
  refine (print_any c w0 He.out HC.out).mono ?_
  rintro e w1 ⟨rfl, hk⟩
  have HCB1 := Lib.hid (blk_mod hk HCB.out id)
  have HT1 := Lib.hid (HT.out.keep hk)
  have He1 := Lib.hid (He.out.keep hk)
  have HK1 := Lib.hid (HK0.out.keep hk)
  clear hk HCB HT He HK0
  cases hok : c.ok with
  | false =>
    have Hv : RowKit.Hid (doT T c = (T, 1)) := Lib.hid (by rw [doT, if_pos hok])
    have hp : printV c = .tuple #[.string ⟨#[]⟩, .int .i64 130] := by rw [printV, hok]; rfl
    rw [hp]
    clear hp hok
    go_wp2_with fail
    go_ret
    exact ⟨by rw [Hv.out]; rfl, by rw [Hv.out]; exact Turned.same HT0.out HK1.out⟩
  | true =>
    have hp : printV c = .tuple #[.string ⟨c.line.toArray⟩, .int .i64 0] := by rw [printV, hok]; rfl
    rw [hp]
    obtain ⟨h9, _, _⟩ := ok_parts hok
    have hk := k_lt h9
    have Hpos := Lib.hid (ok_pos hok)
    have Hdat := Lib.hid (ok_data hok)
    have Hv0 : RowKit.Hid (doT T c = if c.kind = 0 ∨ c.kind = 1 then makesT T c else if c.kind = 2 ∨ c.kind = 3 then writesT T c else if c.kind = 4 then linksT T c else if c.kind = 5 then renamesT T c else if c.kind = 6 then removesT T c else (T, 1)) := Lib.hid (by rw [doT, if_neg (by rw [hok]; decide)])
    have z0 : w1.cell? ⟨w.heap.size, 0, none⟩ = some (.int .i64 c.kind) := blk_cell HCB1.out 0
    have z1 : w1.cell? ⟨w.heap.size, 1, none⟩ = some (.string ⟨c.path.toArray⟩) := blk_cell HCB1.out 1
    have z2 : w1.cell? ⟨w.heap.size, 2, none⟩ = some (.string ⟨c.dest.toArray⟩) := blk_cell HCB1.out 2
    have z3 : w1.cell? ⟨w.heap.size, 3, none⟩ = some (.int .i64 c.pos) := blk_cell HCB1.out 3
    have z4 : w1.cell? ⟨w.heap.size, 4, none⟩ = some (.string ⟨c.data.toArray⟩) := blk_cell HCB1.out 4
    have hkn : c.kind = 0 ∨ c.kind = 1 ∨ c.kind = 2 ∨ c.kind = 3 ∨ c.kind = 4 ∨ c.kind = 5 ∨ c.kind = 6 ∨ c.kind = 7 ∨ c.kind = 8 := by omega
    clear hp hok h9 hk
    rcases hkn with hq | hq | hq | hq | hq | hq | hq | hq | hq
    · have Hv : RowKit.Hid (doT T c = makesT T c) := Lib.hid (by rw [Hv0.out]; simp [hq])
      have hcall := makes_any HT1.out HW.out He1.out c HC.out (.inl hq)
      unfold cmdV cmdC at hcall
      rw [hq] at hcall
      have HCL := Lib.hid hcall
      rw [hq] at z0
      clear hq hcall
      go_wp2_with fail
      refine HCL.out.mono ?_
      rintro e w2 ⟨rfl, ht⟩
      have HT2 := Lib.hid ht
      clear ht
      go_wp2_with fail
      go_ret
      exact ⟨by rw [Hv.out]; rfl, by rw [Hv.out]; exact Turned.from HK1.out HT2.out⟩
    · have Hv : RowKit.Hid (doT T c = makesT T c) := Lib.hid (by rw [Hv0.out]; simp [hq])
      have hcall := makes_any HT1.out HW.out He1.out c HC.out (.inr hq)
      unfold cmdV cmdC at hcall
      rw [hq] at hcall
      have HCL := Lib.hid hcall
      rw [hq] at z0
      clear hq hcall
      go_wp2_with fail
      refine HCL.out.mono ?_
      rintro e w2 ⟨rfl, ht⟩
      have HT2 := Lib.hid ht
      clear ht
      go_wp2_with fail
      go_ret
      exact ⟨by rw [Hv.out]; rfl, by rw [Hv.out]; exact Turned.from HK1.out HT2.out⟩
    · have Hv : RowKit.Hid (doT T c = writesT T c) := Lib.hid (by rw [Hv0.out]; simp [hq])
      have hcall := writes_any HT1.out HW.out He1.out c HC.out Hpos.out Hdat.out.1 Hdat.out.2
      unfold cmdV cmdC at hcall
      rw [hq] at hcall
      have HCL := Lib.hid hcall
      rw [hq] at z0
      clear hq hcall
      go_wp2_with fail
      refine HCL.out.mono ?_
      rintro e w2 ⟨rfl, ht⟩
      have HT2 := Lib.hid ht
      clear ht
      go_wp2_with fail
      go_ret
      exact ⟨by rw [Hv.out]; rfl, by rw [Hv.out]; exact Turned.from HK1.out HT2.out⟩
    · have Hv : RowKit.Hid (doT T c = writesT T c) := Lib.hid (by rw [Hv0.out]; simp [hq])
      have hcall := writes_any HT1.out HW.out He1.out c HC.out Hpos.out Hdat.out.1 Hdat.out.2
      unfold cmdV cmdC at hcall
      rw [hq] at hcall
      have HCL := Lib.hid hcall
      rw [hq] at z0
      clear hq hcall
      go_wp2_with fail
      refine HCL.out.mono ?_
      rintro e w2 ⟨rfl, ht⟩
      have HT2 := Lib.hid ht
      clear ht
      go_wp2_with fail
      go_ret
      exact ⟨by rw [Hv.out]; rfl, by rw [Hv.out]; exact Turned.from HK1.out HT2.out⟩
    · have Hv : RowKit.Hid (doT T c = linksT T c) := Lib.hid (by rw [Hv0.out]; simp [hq])
      have hcall := links_any HT1.out HW.out He1.out c HC.out
      unfold cmdV cmdC at hcall
      rw [hq] at hcall
      have HCL := Lib.hid hcall
      rw [hq] at z0
      clear hq hcall
      go_wp2_with fail
      refine HCL.out.mono ?_
      rintro e w2 ⟨rfl, ht⟩
      have HT2 := Lib.hid ht
      clear ht
      go_wp2_with fail
      go_ret
      exact ⟨by rw [Hv.out]; rfl, by rw [Hv.out]; exact Turned.from HK1.out HT2.out⟩
    · have Hv : RowKit.Hid (doT T c = renamesT T c) := Lib.hid (by rw [Hv0.out]; simp [hq])
      have hcall := renames_any HT1.out HW.out He1.out c HC.out
      unfold cmdV cmdC at hcall
      rw [hq] at hcall
      have HCL := Lib.hid hcall
      rw [hq] at z0
      clear hq hcall
      go_wp2_with fail
      refine HCL.out.mono ?_
      rintro e w2 ⟨rfl, ht⟩
      have HT2 := Lib.hid ht
      clear ht
      go_wp2_with fail
      go_ret
      exact ⟨by rw [Hv.out]; rfl, by rw [Hv.out]; exact Turned.from HK1.out HT2.out⟩
    · have Hv : RowKit.Hid (doT T c = removesT T c) := Lib.hid (by rw [Hv0.out]; simp [hq])
      have hcall := removes_any HT1.out HW.out He1.out c HC.out
      unfold cmdV cmdC at hcall
      rw [hq] at hcall
      have HCL := Lib.hid hcall
      rw [hq] at z0
      clear hq hcall
      go_wp2_with fail
      refine HCL.out.mono ?_
      rintro e w2 ⟨rfl, ht⟩
      have HT2 := Lib.hid ht
      clear ht
      go_wp2_with fail
      go_ret
      exact ⟨by rw [Hv.out]; rfl, by rw [Hv.out]; exact Turned.from HK1.out HT2.out⟩
    all_goals
      have Hv : RowKit.Hid (doT T c = (T, 1)) := Lib.hid (by rw [Hv0.out]; simp [hq])
      rw [hq] at z0
      clear hq
      go_wp2_with fail
      go_ret
      exact ⟨by rw [Hv.out]; rfl, by rw [Hv.out]; exact Turned.same HT0.out HK1.out⟩
end
end Go.Proofs.YthmpblccplphfaaGreatDoor
