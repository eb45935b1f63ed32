/-
  The reference's tree of files: a command done.
-/
import Derived.Test.YthmpblccplphfaaGreatDoorRefRen
import Derived.Test.YthmpblccplphfaaGreatDoorRefPrP
namespace Go.Proofs.YthmpblccplphfaaGreatDoor
open Go.RowKit
section
variable {T : Tr} {d : Int → Nat} {off : Int → Int} {w : World} {t : Nat}
theorem encE_nil {l : Nm} (h : l.length ≤ 60) (hne : l ≠ []) : (encE l == [0]) = false := by
  rw [beq_eq_false_iff_ne]
  intro e2
  unfold encE encN at e2
  rw [dif_pos (by omega)] at e2
  have e3 := (List.cons.inj e2).1
  have e4 := congrArg UInt8.toNat e3
  simp at e4
  have : l.length ≠ 0 := fun h0 => hne (List.length_eq_zero_iff.1 h0)
  omega
theorem told_dir0 {n : Nd} (hd : n.dir = true) (hn : n.names = []) : n.told = ⟨n.num, true, n.links, [0]⟩ := by
  unfold Nd.told; rw [hd, hn]; simp [encE, encN]
theorem told_dir {n : Nd} (hd : n.dir = true) : n.told = ⟨n.num, true, n.links, encE n.names⟩ := by
  unfold Nd.told; rw [hd]; simp
theorem told_file {n : Nd} (hd : n.dir = false) : n.told = ⟨n.num, false, n.links, n.data⟩ := by
  unfold Nd.told; rw [hd]; simp
/-- a node's own block is none of the list's -/
theorem RefAt.node {w w' : World} {t ob : Nat} {l : List Nt} {a c : Int} {b : Bool} {s : ByteArray} {ty : TypeId} (h : RefAt w t l) (h2 : 2 ≤ l.length) (hb : World.blk w ob #[.int .i64 a, .bool b, .int .i64 c, .string s] ty) (m : Mod (· = ob) w w') : RefAt w' t l := by
  obtain ⟨ra, cap, hr, hx⟩ := h.row
  have ht : ¬ t = ob := fun e => by
    have h1 := blk_cell hr 0
    rw [e, blk_cell hb 0] at h1; cases h1
  obtain ⟨x, y, r, rfl⟩ : ∃ x y r, l = x :: y :: r := by
    match l, h2 with
    | x :: y :: r, _ => exact ⟨x, y, r, rfl⟩
  obtain ⟨b0, o0, rfl, hne, hc⟩ := hx 0 x rfl
  have hbo : ¬ b0 = ob := fun e => by
    obtain ⟨b1, o1, e1, _, hc1⟩ := hx 1 y rfl
    cases e1
    have k0 := hc 0 _ rfl
    have k1 := hc 1 _ rfl
    have k4 := hc1 0 _ rfl
    rw [e, blk_cell hb] at k0 k1 k4
    simp only [Nat.zero_mul, Nat.add_zero, Nat.one_mul] at k0 k1 k4
    match o0, k0, k1, k4 with
    | 0, k0, k1, k4 => simp at k4
    | 1, k0, k1, k4 => have e := Option.some.inj k0; cases e
    | 2, k0, k1, k4 => have e := Option.some.inj k1; cases e
    | 3, k0, k1, k4 => have e := Option.some.inj k0; cases e
    | o + 4, k0, k1, k4 => simp at k0
  refine ⟨⟨_, cap, blk_mod m hr ht, fun j z hj => ?_⟩⟩
  obtain ⟨b1, o1, e1, hne1, hc1⟩ := hx j z hj
  cases e1
  exact ⟨_, _, rfl, hne1, fun i q hi => by rw [m.cell (p := ⟨b0, o0 + j * 4 + i, none⟩) (lt_of_cell (hc1 i q hi)) hbo]; exact hc1 i q hi⟩
theorem two_of {T : Tr} {r n : Nd} (hr : r ∈ T) (hn : n ∈ T) (h : r.num ≠ n.num) : 2 ≤ T.length := by
  match T, hr, hn with
  | [x], hr, hn => simp at hr hn; subst hr hn; exact absurd rfl h
  | x :: y :: q, _, _ => simp
set_option maxRecDepth 100000 in
set_option maxHeartbeats 16000000 in
theorem rdo_any (h : RefAt w t (toldT T)) (hw : WF T d) (c : Cmd) (hc : c.Small) :
    Calls Tryz.prog 23 #[.pointer (some ⟨t, 0, none⟩), cmdV c] w fun e w' => e = .returned (.int .i64 (doT T c).2) ∧ RefAt w' t (toldT (doT T c).1) ∧ Mod (· = t) w w' := by
  have HC := Lib.hid hc
  have hk0 : Keep w (w.alloc (.cells (cmdC c) 38)) := (Mod.refl _ w).alloc _
  have HR := Lib.hid (h.keep hk0)
  have HW := Lib.hid hw
  have HCB : RowKit.Hid (World.blk (w.alloc (.cells (cmdC c) 38)) w.heap.size (cmdC c) 38) := Lib.hid (blk_new _ _ _)
  clear h hw hc hk0
  go_enter Tryz.func23, Tryz.ntmps23
  unfold cmdV cmdC
  go_wp2_with fail
  unfold cmdC at HR HCB
  have HK0 : RowKit.Hid (Keep w (w.alloc (.cells #[.int .i64 c.kind, .string ⟨c.path.toArray⟩, .string ⟨c.dest.toArray⟩, .int .i64 c.pos, .string ⟨c.data.toArray⟩] 38))) := Lib.hid ((Mod.refl _ w).alloc _)
  generalize w.alloc (.cells #[.int .i64 c.kind, .string ⟨c.path.toArray⟩, .string ⟨c.dest.toArray⟩, .int .i64 c.pos, .string ⟨c.data.toArray⟩] 38) = w0 at *
  refine (RP.rprint_any c w0 HC.out).mono ?_
  rintro e w1 ⟨rfl, hk⟩
  have HCB1 := Lib.hid (blk_mod hk HCB.out id)
  have HR1 := Lib.hid (HR.out.keep hk)
  have HK1 := Lib.hid (HK0.out.keep hk)
  clear hk HCB HR HK0
  cases hok : c.ok with
  | false =>
    have Hv : RowKit.Hid (doT T c = (T, 1)) := Lib.hid (by rw [doT, if_pos hok])
    have hp : printV c = .tuple #[.string ⟨#[]⟩, .int .i64 130] := by rw [printV, hok]; rfl
    rw [hp]
    clear hp hok
    go_wp2_with fail
    go_ret
    rw [Hv.out]
    exact ⟨rfl, HR1.out, HK1.out.mono (fun _ _ h => h.elim)⟩
  | true =>
    have hp : printV c = .tuple #[.string ⟨c.line.toArray⟩, .int .i64 0] := by rw [printV, hok]; rfl
    rw [hp]
    obtain ⟨h9, _, _⟩ := ok_parts hok
    have hk := k_lt h9
    have Hpos := Lib.hid (ok_pos hok)
    have Hdat := Lib.hid (ok_data hok)
    have Hv0 : RowKit.Hid (doT T c = if c.kind = 0 ∨ c.kind = 1 then makesT T c else if c.kind = 2 ∨ c.kind = 3 then writesT T c else if c.kind = 4 then linksT T c else if c.kind = 5 then renamesT T c else if c.kind = 6 then removesT T c else (T, 1)) := Lib.hid (by rw [doT, if_neg (by rw [hok]; decide)])
    have z0 : w1.cell? ⟨w.heap.size, 0, none⟩ = some (.int .i64 c.kind) := blk_cell HCB1.out 0
    have z1 : w1.cell? ⟨w.heap.size, 1, none⟩ = some (.string ⟨c.path.toArray⟩) := blk_cell HCB1.out 1
    have z2 : w1.cell? ⟨w.heap.size, 2, none⟩ = some (.string ⟨c.dest.toArray⟩) := blk_cell HCB1.out 2
    have z3 : w1.cell? ⟨w.heap.size, 3, none⟩ = some (.int .i64 c.pos) := blk_cell HCB1.out 3
    have z4 : w1.cell? ⟨w.heap.size, 4, none⟩ = some (.string ⟨c.data.toArray⟩) := blk_cell HCB1.out 4
    have hkn : c.kind = 0 ∨ c.kind = 1 ∨ c.kind = 2 ∨ c.kind = 3 ∨ c.kind = 4 ∨ c.kind = 5 ∨ c.kind = 6 ∨ c.kind = 7 ∨ c.kind = 8 := by omega
    clear hp hok h9 hk
    rcases hkn with hq | hq | hq | hq | hq | hq | hq | hq | hq
    · have Hv : RowKit.Hid (doT T c = makesT T c) := Lib.hid (by rw [Hv0.out]; simp [hq])
      have hcall := rmakes_any HR1.out HW.out c HC.out (.inl hq)
      unfold cmdV cmdC at hcall
      rw [hq] at hcall
      have HCL := Lib.hid hcall
      rw [hq] at z0
      clear hq hcall
      go_wp2_with fail
      refine HCL.out.mono ?_
      rintro e w2 ⟨rfl, hr2, hm2⟩
      have HR2 := Lib.hid hr2
      have HM2 : RowKit.Hid (Mod (· = t) w w2) := Lib.hid ((HK1.out.mono (fun _ _ h => h.elim)).trans hm2 (fun i _ h => h))
      clear hr2 hm2
      go_wp2_with fail
      go_ret
      rw [Hv.out]
      exact ⟨rfl, HR2.out, HM2.out⟩
    · have Hv : RowKit.Hid (doT T c = makesT T c) := Lib.hid (by rw [Hv0.out]; simp [hq])
      have hcall := rmakes_any HR1.out HW.out c HC.out (.inr hq)
      unfold cmdV cmdC at hcall
      rw [hq] at hcall
      have HCL := Lib.hid hcall
      rw [hq] at z0
      clear hq hcall
      go_wp2_with fail
      refine HCL.out.mono ?_
      rintro e w2 ⟨rfl, hr2, hm2⟩
      have HR2 := Lib.hid hr2
      have HM2 : RowKit.Hid (Mod (· = t) w w2) := Lib.hid ((HK1.out.mono (fun _ _ h => h.elim)).trans hm2 (fun i _ h => h))
      clear hr2 hm2
      go_wp2_with fail
      go_ret
      rw [Hv.out]
      exact ⟨rfl, HR2.out, HM2.out⟩
    · have Hv : RowKit.Hid (doT T c = writesT T c) := Lib.hid (by rw [Hv0.out]; simp [hq])
      have hcall := rwrites_any HR1.out HW.out c HC.out Hpos.out Hdat.out.1 Hdat.out.2
      unfold cmdV cmdC at hcall
      rw [hq] at hcall
      have HCL := Lib.hid hcall
      rw [hq] at z0
      clear hq hcall
      go_wp2_with fail
      refine HCL.out.mono ?_
      rintro e w2 ⟨rfl, hr2, hm2⟩
      have HR2 := Lib.hid hr2
      have HM2 : RowKit.Hid (Mod (· = t) w w2) := Lib.hid ((HK1.out.mono (fun _ _ h => h.elim)).trans hm2 (fun i _ h => h))
      clear hr2 hm2
      go_wp2_with fail
      go_ret
      rw [Hv.out]
      exact ⟨rfl, HR2.out, HM2.out⟩
    · have Hv : RowKit.Hid (doT T c = writesT T c) := Lib.hid (by rw [Hv0.out]; simp [hq])
      have hcall := rwrites_any HR1.out HW.out c HC.out Hpos.out Hdat.out.1 Hdat.out.2
      unfold cmdV cmdC at hcall
      rw [hq] at hcall
      have HCL := Lib.hid hcall
      rw [hq] at z0
      clear hq hcall
      go_wp2_with fail
      refine HCL.out.mono ?_
      rintro e w2 ⟨rfl, hr2, hm2⟩
      have HR2 := Lib.hid hr2
      have HM2 : RowKit.Hid (Mod (· = t) w w2) := Lib.hid ((HK1.out.mono (fun _ _ h => h.elim)).trans hm2 (fun i _ h => h))
      clear hr2 hm2
      go_wp2_with fail
      go_ret
      rw [Hv.out]
      exact ⟨rfl, HR2.out, HM2.out⟩
    · have Hv : RowKit.Hid (doT T c = linksT T c) := Lib.hid (by rw [Hv0.out]; simp [hq])
      have hcall := rlinks_any HR1.out HW.out c HC.out
      unfold cmdV cmdC at hcall
      rw [hq] at hcall
      have HCL := Lib.hid hcall
      rw [hq] at z0
      clear hq hcall
      go_wp2_with fail
      refine HCL.out.mono ?_
      rintro e w2 ⟨rfl, hr2, hm2⟩
      have HR2 := Lib.hid hr2
      have HM2 : RowKit.Hid (Mod (· = t) w w2) := Lib.hid ((HK1.out.mono (fun _ _ h => h.elim)).trans hm2 (fun i _ h => h))
      clear hr2 hm2
      go_wp2_with fail
      go_ret
      rw [Hv.out]
      exact ⟨rfl, HR2.out, HM2.out⟩
    · have Hv : RowKit.Hid (doT T c = renamesT T c) := Lib.hid (by rw [Hv0.out]; simp [hq])
      have hcall := rrenames_any HR1.out HW.out c HC.out
      unfold cmdV cmdC at hcall
      rw [hq] at hcall
      have HCL := Lib.hid hcall
      rw [hq] at z0
      clear hq hcall
      go_wp2_with fail
      refine HCL.out.mono ?_
      rintro e w2 ⟨rfl, hr2, hm2⟩
      have HR2 := Lib.hid hr2
      have HM2 : RowKit.Hid (Mod (· = t) w w2) := Lib.hid ((HK1.out.mono (fun _ _ h => h.elim)).trans hm2 (fun i _ h => h))
      clear hr2 hm2
      go_wp2_with fail
      go_ret
      rw [Hv.out]
      exact ⟨rfl, HR2.out, HM2.out⟩
    · have Hv1 : RowKit.Hid (doT T c = removesT T c) := Lib.hid (by rw [Hv0.out]; simp [hq])
      rw [hq] at z0
      clear hq z2 z3 z4
      by_cases hroot : c.path = [47]
      · have hq1 : (c.path == [47]) = true := beq_iff_eq.2 hroot
        have Hv : RowKit.Hid (doT T c = (T, 144)) := Lib.hid (by rw [Hv1.out, removesT, if_pos hroot])
        clear hroot
        go_wp2_with fail
        go_ret
        rw [Hv.out]
        exact ⟨rfl, HR1.out, HK1.out.mono (fun _ _ h => h.elim)⟩
      · have hq1 : (c.path == [47]) = false := beq_false_of_ne hroot
        have Hroot := Lib.hid hroot
        clear hroot
        go_wp2_with fail
        refine (rget_any HR1.out HW.out c.path HC.out.path).mono ?_
        rintro e w2 ⟨rfl, hk⟩
        have HCB2 := Lib.hid (blk_mod hk HCB1.out id)
        have HR2 := Lib.hid (HR1.out.keep hk)
        have HK2 := Lib.hid (HK1.out.keep hk)
        clear hk z0 z1 HCB1 HK1
        rcases node_cases HW.out c.path with ⟨e, ha, hn, hne⟩ | ⟨j, n, ha, hg, hn⟩
        · rw [hn]
          unfold getV
          have Hv : RowKit.Hid (doT T c = (T, e)) := Lib.hid (by rw [Hv1.out, removesT, if_neg Hroot.out, ha])
          clear ha hn
          go_wp2_with fail
          go_ret
          rw [Hv.out]
          exact ⟨rfl, HR2.out.keep ((Mod.refl _ _).alloc _), (HK2.out.alloc _).mono (fun _ _ h => h.elim)⟩
        obtain ⟨q, s, o, up, hpo, hfj, hfo, hgo, hdo, hs⟩ := last_ok HW.out ha Hroot.out
        have Hg := Lib.hid hg
        have Hup := Lib.hid (And.intro hgo (And.intro hdo hs))
        have Hpo := Lib.hid hpo
        have Hfo := Lib.hid hfo
        have Ha := Lib.hid ha
        have Hnum : RowKit.Hid (n.num = j) := Lib.hid ((get_iff HW.out.sorted).1 hg).2
        have Hsl := Lib.hid ((names_small hpo).2 s (by simp))
        have Hlk := Lib.hid (links_small HW.out hg)
        have Hdel : RowKit.Hid (entsOk (nameF s 0 up.names) = true) := Lib.hid (by
          have h1 := wf_del HW.out hgo hs
          have h2 : (T.named o (delN s)).get o = some { up with names := delN s up.names } := by rw [get_named, if_pos rfl, hgo]; rfl
          rw [nameF_del]
          exact h1.ents ((get_iff h1.sorted).1 h2).1)
        have Hv2 : RowKit.Hid (n.names = [] → doT T c = (if n.links = 1 then (T.named o (delN s)).drop j else (T.named o (delN s)).upd j fun n => { n with links := n.links - 1 }, 0)) := Lib.hid (fun hnm => by
          rw [Hv1.out, removesT, if_neg Hroot.out, ha]
          simp [hg, hnm, hpo, hfo])
        have Hjo : RowKit.Hid (n.names = [] → j ≠ o) := Lib.hid (fun hnm e => by
          have h1 := Hg.out
          rw [e, hgo] at h1
          have h2 := Option.some.inj h1
          rw [h2, hnm] at hs; cases hs)
        have Hj1 : RowKit.Hid (j ≠ 1) := Lib.hid (fun e => by
          have h1 := (HW.out.closed up ((get_iff HW.out.sorted).1 hgo).1 _ ((getG_iff (HW.out.snames up ((get_iff HW.out.sorted).1 hgo).1)).1 hs)).1
          exact h1 e)
        have h60 := (HW.out.names n ((get_iff HW.out.sorted).1 hg).1).1
        have Hm := Lib.hid ((get_iff HW.out.sorted).1 hg).1
        rw [hn]
        clear hpo hfj hfo hgo hdo hs
        by_cases hnm : n.names = []
        · replace Hv2 := Lib.hid (Hv2.out hnm)
          replace Hjo := Lib.hid (Hjo.out hnm)
          have Hnm := Lib.hid hnm
          cases hd : n.dir with
          | true =>
            have hto := told_dir0 hd hnm
            have Hto := Lib.hid hto
            clear hnm h60 hd
            rw [show getV (Except.ok n) = .tuple #[nodeV ⟨n.num, true, n.links, [0]⟩, .int .i64 0] by show Value.tuple #[nodeV n.told, _] = _; rw [Hto.out]]
            have HX : RowKit.Hid (World.blk (w2.alloc (.cells #[.int .i64 n.num, .bool true, .int .i64 n.links, .string ⟨#[0]⟩] 41)) w2.heap.size #[.int .i64 n.num, .bool true, .int .i64 n.links, .string ⟨#[0]⟩] 41) := Lib.hid (blk_new _ _ _)
            have hk3 : Keep w2 (w2.alloc (.cells #[.int .i64 n.num, .bool true, .int .i64 n.links, .string ⟨#[0]⟩] 41)) := (Mod.refl _ w2).alloc _
            have HR3 := Lib.hid (HR2.out.keep hk3)
            have HK3 := Lib.hid (HK2.out.keep hk3)
            have HCB3 := Lib.hid (blk_mod hk3 HCB2.out id)
            have ht3 : t < w2.heap.size := blk_lt (Classical.choose_spec (Classical.choose_spec HR2.out.row)).1
            have Ht3 := Lib.hid ht3
            have hc3 : w.heap.size < w2.heap.size := blk_lt HCB2.out
            have Hc3 := Lib.hid hc3
            clear hk3 ht3 hc3 ha hg hn HR2 HCB2 HK2 HR1
            have z1 : World.cell? (w2.alloc (.cells #[.int .i64 n.num, .bool true, .int .i64 n.links, .string ⟨#[0]⟩] 41)) ⟨w.heap.size, 1, none⟩ = some (.string ⟨c.path.toArray⟩) := blk_cell HCB3.out 1
            have x0 : World.cell? (w2.alloc (.cells #[.int .i64 n.num, .bool true, .int .i64 n.links, .string ⟨#[0]⟩] 41)) ⟨w2.heap.size, 0, none⟩ = some (.int .i64 n.num) := blk_cell HX.out 0
            have x1 : World.cell? (w2.alloc (.cells #[.int .i64 n.num, .bool true, .int .i64 n.links, .string ⟨#[0]⟩] 41)) ⟨w2.heap.size, 1, none⟩ = some (.bool true) := blk_cell HX.out 1
            have x3 : World.cell? (w2.alloc (.cells #[.int .i64 n.num, .bool true, .int .i64 n.links, .string ⟨#[0]⟩] 41)) ⟨w2.heap.size, 3, none⟩ = some (.string ⟨#[0]⟩) := blk_cell HX.out 3
            have hdat : ((#[0] : Array UInt8) == #[0]) = true := rfl
            go_wp2_with fail
            generalize (w2.alloc (.cells #[.int .i64 n.num, .bool true, .int .i64 n.links, .string ⟨#[0]⟩] 41)) = w3 at *
            generalize hob : w2.heap.size = ob at *
            have hot : ¬ ob = t := by have := Ht3.out; omega
            have Hot := Lib.hid hot
            clear hob
            refine (rup_any (T := T) HR3.out HW.out c.path HC.out.path Hpo.out Hfo.out Hup.out.1).mono ?_
            rintro e w4 ⟨rfl, hk4⟩
            have HR4 := Lib.hid (HR3.out.keep hk4)
            have HK4 := Lib.hid (HK3.out.keep hk4)
            have HX4 := Lib.hid (blk_mod hk4 HX.out id)
            clear hk4 HR3 HK3 HX HCB3 z1 x0 x1 x3 hot
            go_wp2_with fail
            obtain ⟨hom, hon⟩ := (get_iff HW.out.sorted).1 Hup.out.1
            have hcall := rnamed_any (T := T) HR4.out HW.out.sorted (by have := HW.out.many; omega) Hup.out.1 Hup.out.2.1 (HW.out.ents hom) (HW.out.names up hom).1 s Hsl.out 0 ⟨by omega, by omega⟩ Hdel.out
            rw [nameF_del] at hcall
            refine hcall.mono ?_
            clear hcall
            rintro e w5 ⟨rfl, hr5, hm5⟩
            have HR5 := Lib.hid hr5
            have HM5 : RowKit.Hid (Mod (· = t) w w5) := Lib.hid ((HK4.out.mono (fun _ _ h => h.elim)).trans hm5 (fun i _ h => h))
            have HX5 := Lib.hid (blk_mod hm5 HX4.out Hot.out)
            clear hr5 hm5 hom hon HR4 HK4 HX4
            have y0 : w5.cell? ⟨ob, 0, none⟩ = some (.int .i64 n.num) := blk_cell HX5.out 0
            have y1 : w5.cell? ⟨ob, 1, none⟩ = some (.bool true) := blk_cell HX5.out 1
            have y2 : w5.cell? ⟨ob, 2, none⟩ = some (.int .i64 n.links) := blk_cell HX5.out 2
            have y3 : w5.cell? ⟨ob, 3, none⟩ = some (.string ⟨#[0]⟩) := blk_cell HX5.out 3
            have g2 : w5.frozen? ⟨ob, 2, none⟩ = false := blk_free HX5.out _ rfl
            have hlk := Hlk.out
            have hw64 : wrap64 (n.links - 1) = n.links - 1 := by unfold wrap64; omega
            have hw64' : IntKind.i64.wrap (n.links - 1) = n.links - 1 := by rw [IntKind.wrap_i64]; omega
            have HT2 : RowKit.Hid (2 ≤ (toldT (T.named o (delN s))).length) := Lib.hid (by
              obtain ⟨r, hr, hr1, _⟩ := HW.out.root
              have h1 := two_of hr Hm.out (by rw [hr1, Hnum.out]; exact fun e => Hj1.out e.symm)
              unfold Tr.named; rw [told_len, upd_len]; exact h1)
            have hL : (toldT (T.named o (delN s))).length ≤ 1000 := by
              have := HW.out.many
              unfold Tr.named; rw [told_len, upd_len]; omega
            by_cases hl1 : n.links = 1
            · have Hv3 : RowKit.Hid (doT T c = ((T.named o (delN s)).drop j, 0)) := Lib.hid (Hv2.out.trans (by rw [if_pos hl1]))
              rw [hl1] at y2
              clear hw64 hw64' hlk hl1
              go_wp2_with fail
              have hm6 : Mod (· = ob) w5 (w5.setCell ⟨ob, 2, none⟩ (.int .i64 0)) := (Mod.refl (fun x => x = ob) w5).setCell (p := ⟨ob, 2, none⟩) (.inl rfl) _
              have HR6 := Lib.hid (HR5.out.node HT2.out HX5.out hm6)
              have HM6 : RowKit.Hid (Mod (· = t) w (w5.setCell ⟨ob, 2, none⟩ (.int .i64 0))) := Lib.hid (HM5.out.setCell (p := ⟨ob, 2, none⟩) (.inr (Nat.le_of_lt Hc3.out)) _)
              clear hm6 y0 y1 y2 y3 g2
              generalize w5.setCell ⟨ob, 2, none⟩ (.int .i64 0) = w6 at *
              refine (rdrop_any HR6.out hL n.num).mono ?_
              rw [Hnum.out, drop_told]
              rintro e w7 ⟨rfl, hr7, hm7⟩
              have HR7 := Lib.hid hr7
              have HM7 := Lib.hid (HM6.out.trans hm7 (fun i _ h => h))
              clear hr7 hm7
              go_wp2_with fail
              go_ret
              rw [Hv3.out]
              exact ⟨rfl, HR7.out, HM7.out⟩
            · have Hv3 : RowKit.Hid (doT T c = ((T.named o (delN s)).upd j fun n => { n with links := n.links - 1 }, 0)) := Lib.hid (Hv2.out.trans (by rw [if_neg hl1]))
              have hl0 : ((n.links - 1 : Int) == 0) = false := by rw [beq_eq_false_iff_ne]; omega
              have hpu : RowKit.Hid (goPut ⟨n.num, true, n.links - 1, [0]⟩ false (toldT (T.named o (delN s))) = toldT ((T.named o (delN s)).upd j fun n => { n with links := n.links - 1 })) := Lib.hid (by
                have hs1 : Sorted (T.named o (delN s)) := upd_sorted (fun _ => rfl) HW.out.sorted
                have hg1 : (T.named o (delN s)).get j = some n := by rw [get_named, if_neg Hjo.out]; exact Hg.out
                have h := put_upd hs1 (f := fun n => { n with links := n.links - 1 }) hg1 Hnum.out
                rw [show (Nd.told { n with links := n.links - 1 }) = { n.told with links := n.links - 1 } from rfl, Hto.out] at h
                exact h)
              go_wp2_with fail
              try rw [hw64]
              have hm6 : Mod (· = ob) w5 (w5.setCell ⟨ob, 2, none⟩ (.int .i64 (n.links - 1))) := (Mod.refl (fun x => x = ob) w5).setCell (p := ⟨ob, 2, none⟩) (.inl rfl) _
              have HR6 := Lib.hid (HR5.out.node HT2.out HX5.out hm6)
              have HM6 : RowKit.Hid (Mod (· = t) w (w5.setCell ⟨ob, 2, none⟩ (.int .i64 (n.links - 1)))) := Lib.hid (HM5.out.setCell (p := ⟨ob, 2, none⟩) (.inr (Nat.le_of_lt Hc3.out)) _)
              clear hm6 y0 y1 y2 y3 g2 hw64 hw64' hl0
              generalize w5.setCell ⟨ob, 2, none⟩ (.int .i64 (n.links - 1)) = w6 at *
              refine (rput_any HR6.out hL ⟨n.num, true, n.links - 1, [0]⟩).mono ?_
              rw [hpu.out]
              rintro e w7 ⟨rfl, hr7, hm7⟩
              have HR7 := Lib.hid hr7
              have HM7 := Lib.hid (HM6.out.trans hm7 (fun i _ h => h))
              clear hr7 hm7
              go_wp2_with fail
              go_ret
              rw [Hv3.out]
              exact ⟨rfl, HR7.out, HM7.out⟩
          | false =>
            have hto := told_file hd
            have Hto := Lib.hid hto
            clear hnm h60 hd
            rw [show getV (Except.ok n) = .tuple #[nodeV ⟨n.num, false, n.links, n.data⟩, .int .i64 0] by show Value.tuple #[nodeV n.told, _] = _; rw [Hto.out]]
            have HX : RowKit.Hid (World.blk (w2.alloc (.cells #[.int .i64 n.num, .bool false, .int .i64 n.links, .string ⟨n.data.toArray⟩] 41)) w2.heap.size #[.int .i64 n.num, .bool false, .int .i64 n.links, .string ⟨n.data.toArray⟩] 41) := Lib.hid (blk_new _ _ _)
            have hk3 : Keep w2 (w2.alloc (.cells #[.int .i64 n.num, .bool false, .int .i64 n.links, .string ⟨n.data.toArray⟩] 41)) := (Mod.refl _ w2).alloc _
            have HR3 := Lib.hid (HR2.out.keep hk3)
            have HK3 := Lib.hid (HK2.out.keep hk3)
            have HCB3 := Lib.hid (blk_mod hk3 HCB2.out id)
            have ht3 : t < w2.heap.size := blk_lt (Classical.choose_spec (Classical.choose_spec HR2.out.row)).1
            have Ht3 := Lib.hid ht3
            have hc3 : w.heap.size < w2.heap.size := blk_lt HCB2.out
            have Hc3 := Lib.hid hc3
            clear hk3 ht3 hc3 ha hg hn HR2 HCB2 HK2 HR1
            have z1 : World.cell? (w2.alloc (.cells #[.int .i64 n.num, .bool false, .int .i64 n.links, .string ⟨n.data.toArray⟩] 41)) ⟨w.heap.size, 1, none⟩ = some (.string ⟨c.path.toArray⟩) := blk_cell HCB3.out 1
            have x0 : World.cell? (w2.alloc (.cells #[.int .i64 n.num, .bool false, .int .i64 n.links, .string ⟨n.data.toArray⟩] 41)) ⟨w2.heap.size, 0, none⟩ = some (.int .i64 n.num) := blk_cell HX.out 0
            have x1 : World.cell? (w2.alloc (.cells #[.int .i64 n.num, .bool false, .int .i64 n.links, .string ⟨n.data.toArray⟩] 41)) ⟨w2.heap.size, 1, none⟩ = some (.bool false) := blk_cell HX.out 1
            have x3 : World.cell? (w2.alloc (.cells #[.int .i64 n.num, .bool false, .int .i64 n.links, .string ⟨n.data.toArray⟩] 41)) ⟨w2.heap.size, 3, none⟩ = some (.string ⟨n.data.toArray⟩) := blk_cell HX.out 3
            have hdat : ((#[0] : Array UInt8) == #[0]) = true := rfl
            go_wp2_with fail
            generalize (w2.alloc (.cells #[.int .i64 n.num, .bool false, .int .i64 n.links, .string ⟨n.data.toArray⟩] 41)) = w3 at *
            generalize hob : w2.heap.size = ob at *
            have hot : ¬ ob = t := by have := Ht3.out; omega
            have Hot := Lib.hid hot
            clear hob
            refine (rup_any (T := T) HR3.out HW.out c.path HC.out.path Hpo.out Hfo.out Hup.out.1).mono ?_
            rintro e w4 ⟨rfl, hk4⟩
            have HR4 := Lib.hid (HR3.out.keep hk4)
            have HK4 := Lib.hid (HK3.out.keep hk4)
            have HX4 := Lib.hid (blk_mod hk4 HX.out id)
            clear hk4 HR3 HK3 HX HCB3 z1 x0 x1 x3 hot
            go_wp2_with fail
            obtain ⟨hom, hon⟩ := (get_iff HW.out.sorted).1 Hup.out.1
            have hcall := rnamed_any (T := T) HR4.out HW.out.sorted (by have := HW.out.many; omega) Hup.out.1 Hup.out.2.1 (HW.out.ents hom) (HW.out.names up hom).1 s Hsl.out 0 ⟨by omega, by omega⟩ Hdel.out
            rw [nameF_del] at hcall
            refine hcall.mono ?_
            clear hcall
            rintro e w5 ⟨rfl, hr5, hm5⟩
            have HR5 := Lib.hid hr5
            have HM5 : RowKit.Hid (Mod (· = t) w w5) := Lib.hid ((HK4.out.mono (fun _ _ h => h.elim)).trans hm5 (fun i _ h => h))
            have HX5 := Lib.hid (blk_mod hm5 HX4.out Hot.out)
            clear hr5 hm5 hom hon HR4 HK4 HX4
            have y0 : w5.cell? ⟨ob, 0, none⟩ = some (.int .i64 n.num) := blk_cell HX5.out 0
            have y1 : w5.cell? ⟨ob, 1, none⟩ = some (.bool false) := blk_cell HX5.out 1
            have y2 : w5.cell? ⟨ob, 2, none⟩ = some (.int .i64 n.links) := blk_cell HX5.out 2
            have y3 : w5.cell? ⟨ob, 3, none⟩ = some (.string ⟨n.data.toArray⟩) := blk_cell HX5.out 3
            have g2 : w5.frozen? ⟨ob, 2, none⟩ = false := blk_free HX5.out _ rfl
            have hlk := Hlk.out
            have hw64 : wrap64 (n.links - 1) = n.links - 1 := by unfold wrap64; omega
            have hw64' : IntKind.i64.wrap (n.links - 1) = n.links - 1 := by rw [IntKind.wrap_i64]; omega
            have HT2 : RowKit.Hid (2 ≤ (toldT (T.named o (delN s))).length) := Lib.hid (by
              obtain ⟨r, hr, hr1, _⟩ := HW.out.root
              have h1 := two_of hr Hm.out (by rw [hr1, Hnum.out]; exact fun e => Hj1.out e.symm)
              unfold Tr.named; rw [told_len, upd_len]; exact h1)
            have hL : (toldT (T.named o (delN s))).length ≤ 1000 := by
              have := HW.out.many
              unfold Tr.named; rw [told_len, upd_len]; omega
            by_cases hl1 : n.links = 1
            · have Hv3 : RowKit.Hid (doT T c = ((T.named o (delN s)).drop j, 0)) := Lib.hid (Hv2.out.trans (by rw [if_pos hl1]))
              rw [hl1] at y2
              clear hw64 hw64' hlk hl1
              go_wp2_with fail
              have hm6 : Mod (· = ob) w5 (w5.setCell ⟨ob, 2, none⟩ (.int .i64 0)) := (Mod.refl (fun x => x = ob) w5).setCell (p := ⟨ob, 2, none⟩) (.inl rfl) _
              have HR6 := Lib.hid (HR5.out.node HT2.out HX5.out hm6)
              have HM6 : RowKit.Hid (Mod (· = t) w (w5.setCell ⟨ob, 2, none⟩ (.int .i64 0))) := Lib.hid (HM5.out.setCell (p := ⟨ob, 2, none⟩) (.inr (Nat.le_of_lt Hc3.out)) _)
              clear hm6 y0 y1 y2 y3 g2
              generalize w5.setCell ⟨ob, 2, none⟩ (.int .i64 0) = w6 at *
              refine (rdrop_any HR6.out hL n.num).mono ?_
              rw [Hnum.out, drop_told]
              rintro e w7 ⟨rfl, hr7, hm7⟩
              have HR7 := Lib.hid hr7
              have HM7 := Lib.hid (HM6.out.trans hm7 (fun i _ h => h))
              clear hr7 hm7
              go_wp2_with fail
              go_ret
              rw [Hv3.out]
              exact ⟨rfl, HR7.out, HM7.out⟩
            · have Hv3 : RowKit.Hid (doT T c = ((T.named o (delN s)).upd j fun n => { n with links := n.links - 1 }, 0)) := Lib.hid (Hv2.out.trans (by rw [if_neg hl1]))
              have hl0 : ((n.links - 1 : Int) == 0) = false := by rw [beq_eq_false_iff_ne]; omega
              have hpu : RowKit.Hid (goPut ⟨n.num, false, n.links - 1, n.data⟩ false (toldT (T.named o (delN s))) = toldT ((T.named o (delN s)).upd j fun n => { n with links := n.links - 1 })) := Lib.hid (by
                have hs1 : Sorted (T.named o (delN s)) := upd_sorted (fun _ => rfl) HW.out.sorted
                have hg1 : (T.named o (delN s)).get j = some n := by rw [get_named, if_neg Hjo.out]; exact Hg.out
                have h := put_upd hs1 (f := fun n => { n with links := n.links - 1 }) hg1 Hnum.out
                rw [show (Nd.told { n with links := n.links - 1 }) = { n.told with links := n.links - 1 } from rfl, Hto.out] at h
                exact h)
              go_wp2_with fail
              try rw [hw64]
              have hm6 : Mod (· = ob) w5 (w5.setCell ⟨ob, 2, none⟩ (.int .i64 (n.links - 1))) := (Mod.refl (fun x => x = ob) w5).setCell (p := ⟨ob, 2, none⟩) (.inl rfl) _
              have HR6 := Lib.hid (HR5.out.node HT2.out HX5.out hm6)
              have HM6 : RowKit.Hid (Mod (· = t) w (w5.setCell ⟨ob, 2, none⟩ (.int .i64 (n.links - 1)))) := Lib.hid (HM5.out.setCell (p := ⟨ob, 2, none⟩) (.inr (Nat.le_of_lt Hc3.out)) _)
              clear hm6 y0 y1 y2 y3 g2 hw64 hw64' hl0
              generalize w5.setCell ⟨ob, 2, none⟩ (.int .i64 (n.links - 1)) = w6 at *
              refine (rput_any HR6.out hL ⟨n.num, false, n.links - 1, n.data⟩).mono ?_
              rw [hpu.out]
              rintro e w7 ⟨rfl, hr7, hm7⟩
              have HR7 := Lib.hid hr7
              have HM7 := Lib.hid (HM6.out.trans hm7 (fun i _ h => h))
              clear hr7 hm7
              go_wp2_with fail
              go_ret
              rw [Hv3.out]
              exact ⟨rfl, HR7.out, HM7.out⟩
        · have hd : n.dir = true := by
            cases hd : n.dir with
            | true => rfl
            | false => exact absurd ((HW.out.file n Hm.out hd).1) hnm
          have Hv : RowKit.Hid (doT T c = (T, 144)) := Lib.hid (by rw [Hv1.out, removesT, if_neg Hroot.out, Ha.out]; simp [Hg.out, hnm])
          rw [show getV (Except.ok n) = .tuple #[nodeV ⟨n.num, true, n.links, encE n.names⟩, .int .i64 0] by show Value.tuple #[nodeV n.told, _] = _; rw [told_dir hd]]
          have hne := encE_nil h60 hnm
          have hxb : World.blk (w2.alloc (.cells #[.int .i64 n.num, .bool true, .int .i64 n.links, .string ⟨(encE n.names).toArray⟩] 41)) w2.heap.size #[.int .i64 n.num, .bool true, .int .i64 n.links, .string ⟨(encE n.names).toArray⟩] 41 := blk_new _ _ _
          have x1 := blk_cell hxb 1
          have x3 := blk_cell hxb 3
          clear ha hg hn hnm hd h60 hxb
          go_wp2_with fail
          go_ret
          rw [Hv.out]
          exact ⟨rfl, HR2.out.keep ((Mod.refl _ _).alloc _), (HK2.out.alloc _).mono (fun _ _ h => h.elim)⟩
    all_goals
      have Hv : RowKit.Hid (doT T c = (T, 1)) := Lib.hid (by rw [Hv0.out]; simp [hq])
      rw [hq] at z0
      clear hq
      go_wp2_with fail
      go_ret
      rw [Hv.out]
      exact ⟨rfl, HR1.out, HK1.out.mono (fun _ _ h => h.elim)⟩
end
end Go.Proofs.YthmpblccplphfaaGreatDoor
