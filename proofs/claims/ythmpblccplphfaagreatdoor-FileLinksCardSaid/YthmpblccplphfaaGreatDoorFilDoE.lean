/-
  files: deep.
-/
import Derived.Test.YthmpblccplphfaaGreatDoorFilDoD
namespace Go.Proofs.YthmpblccplphfaaGreatDoor
open Go.RowKit Go.Maps
theorem fold_is {α : Type} (g : α → Nat) : ∀ (l : List α) (m0 m : Nat), m0 ≤ m → (∀ q ∈ l, g q ≤ m) → (m = m0 ∨ ∃ q ∈ l, m = g q) → l.foldl (fun m p => max m (g p)) m0 = m := by
  intro l
  induction l with
  | nil =>
    intro m0 m h0 _ h2
    rcases h2 with rfl | ⟨q, hq, _⟩
    · rfl
    · cases hq
  | cons x r ih =>
    intro m0 m h0 h1 h2
    rw [List.foldl_cons]
    refine ih (max m0 (g x)) m (by have := h1 x (by simp); omega) (fun q hq => h1 q (by simp [hq])) ?_
    rcases h2 with rfl | ⟨q, hq, e⟩
    · left; have := h1 x (by simp); omega
    · rcases List.mem_cons.1 hq with rfl | hq
      · left; omega
      · right; exact ⟨q, hq, e⟩
theorem fold_one {T : Tr} {f : Nat} (l : Nm) (m : Nat) : l.foldl (fun m p => max m (1 + deepT T f p.2)) m = l.foldl (fun m p => max m ((fun p : List UInt8 × Int => 1 + deepT T f p.2) p)) m := rfl
theorem deep_le {T : Tr} : ∀ (f : Nat) (k : Int), deepT T f k ≤ f := by
  intro f
  induction f with
  | zero => intro k; exact Nat.le_refl _
  | succ f ih =>
    intro k
    have key : ∀ (l : Nm) (m : Nat), m ≤ f + 1 → l.foldl (fun m p => max m (1 + deepT T f p.2)) m ≤ f + 1 := by
      intro l
      induction l with
      | nil => intro m h; exact h
      | cons q r ih2 =>
        intro m h
        rw [List.foldl_cons]
        exact ih2 _ (by have := ih q.2; omega)
    show (match T.get k with | none => 0 | some n => _) ≤ _
    split
    · omega
    · exact key _ 0 (by omega)
theorem elem_of {l : Nm} {x : List UInt8} {c : Int} {yd : DataW Value} {yp : List MemPlace} {te : TypeId} (he : Tryz.prog.underlying te = some (.int .i64)) (hv : plainElem Tryz.prog te (.int .i64 c) = some (yd, yp)) (hat : ∀ zd, (toN l).atKey (.string x) zd = yd) : getG x l = some c := by
  obtain ⟨a, ea, ey, _⟩ := plainElem_int_inv he hv
  have ea2 : c = a := by injection ea
  subst ea2
  have ey2 : yd = litI c := congrArg Prod.fst ey
  have h1 := (at_toG (ef := litI) str_same x l (litI 0)).symm.trans (hat (litI 0))
  have h2 := (at_toG (ef := litI) str_same x l (litI 1)).symm.trans (hat (litI 1))
  rw [ey2] at h1 h2
  cases hg : getG x l with
  | none =>
    rw [hg] at h1 h2
    have e1 := lit_inj (a := 0) (b := c) h1
    have e2 := lit_inj (a := 1) (b := c) h2
    omega
  | some b =>
    rw [hg] at h1
    exact congrArg some (lit_inj h1)
section
variable {w : World} {p tb : Nat} {T : Tr} {A M : Int → Nat} {role : Nat → Role} {d : Int → Nat}
set_option maxRecDepth 100000 in
set_option maxHeartbeats 4000000 in
theorem deep_any (hw : WF T d) : ∀ (f : Nat) (k : Int) (n : Nd) (w : World), TreeAt w p T tb A M role → T.get k = some n → 1 ≤ f → f ≤ 100 → (n.dir = true → 9 ≤ d k + f) →
    Calls Tryz.prog 74 #[.pointer (some ⟨p, 0, none⟩), .pointer (some ⟨A k, 0, none⟩)] w fun e w' => e = .returned (.int .i64 (deepT T f k : Int)) ∧ Keep w w' := by
  have HW := Lib.hid hw
  clear hw
  intro f
  induction f with
  | zero => intro k n w _ _ h1 _ _; omega
  | succ f ih =>
    intro k n w h hg h1 h100 hd9
    have HT := Lib.hid h
    have Hg := Lib.hid hg
    have IH := Lib.hid ih
    have c4 : w.cell? ⟨A k, 4, none⟩ = some (.map (if n.dir = true then some (M k) else none)) := h.cell HW.out.sorted hg 4
    obtain ⟨hm, hk⟩ := (get_iff HW.out.sorted).1 hg
    have hdv : deepT T (f + 1) k = n.names.foldl (fun m p => max m (1 + deepT T f p.2)) 0 := by
      show (match T.get k with | none => 0 | some n => _) = _
      rw [hg]
    have Hm := Lib.hid (And.intro hm hk)
    have Hdv := Lib.hid hdv
    have H9 := Lib.hid hd9
    clear h hg ih h1 hm hk hdv hd9
    cases hd : n.dir with
    | false =>
      rw [hd] at c4
      have hnm := (HW.out.file n Hm.out.1 hd).1
      have Hv : RowKit.Hid (deepT T (f + 1) k = 0) := Lib.hid (by rw [Hdv.out, hnm]; rfl)
      clear hnm
      have hr1 := run_range_nilMap (P := Tryz.prog) w _ _ _ Tryz.underlying68
      have hr2 := fun ty => run_next_nilMap (P := Tryz.prog) w ty 0 0 #[]
      go_enter Tryz.func74, Tryz.ntmps74
      go_wp2_with fail
      refine wp_loop_rounds 1 ?_
      rw [rounds_succ]
      go_wp2_with fail
      go_ret
      exact ⟨by rw [Hv.out]; rfl, (Mod.refl _ w).alloc _⟩
    | true =>
      rw [hd, if_pos rfl] at c4
      have hmap := HT.out.names n Hm.out.1 hd
      rw [Hm.out.2] at hmap
      have Hmap := Lib.hid hmap
      have Hd := Lib.hid hd
      clear hmap hd
      go_enter Tryz.func74, Tryz.ntmps74
      go_wp2_with (at_range; refine wpList_range_own _ rfl _ 68 rfl 9 3 (string_keyed Tryz.underlying9) Tryz.underlying68 _ (M k) n.names.length (toN n.names) rfl Hmap.out ?_; intro w0 hrg0 hg0 hs0)
      go_frame
      have Hrg0 := Lib.hid hrg0
      have HK0 := Lib.hid (keep_grown hg0)
      clear hrg0 hg0 hs0 c4
      go_loopw [5] (fun v wr => ∃ (left : Lit → Bool) (cnt m : Nat), World.ranges wr Tryz.prog 9 (plainElem Tryz.prog 3) (M k) w.heap.size n.names.length (toN n.names) left cnt ∧ v = .int .i64 (m : Int) ∧ Keep w wr ∧ RowKit.Hid (m ≤ 101 ∧ (∀ q ∈ n.names, left (.string q.1) = false → 1 + deepT T f q.2 ≤ m) ∧ (m = 0 ∨ ∃ q ∈ n.names, m = 1 + deepT T f q.2))) (fun _ wr => wr.rangeLeft (M k) w.heap.size)
      case atStart =>
        refine ⟨_, _, 0, Hrg0.out, rfl, HK0.out, Lib.hid ⟨by omega, fun q hq hl => ?_, .inl rfl⟩⟩
        rw [has_toG str_same, (getG_iff (HW.out.snames n Hm.out.1)).2 hq] at hl
        cases hl
      case round =>
        clear Hrg0 HK0
        obtain ⟨left, cnt, m, hrg, rfl, hK, Hq⟩ := hrel
        have Hrg := Lib.hid hrg
        have HK := Lib.hid hK
        clear hrg hK
        go_wp2_with (at_next; refine wpList_next_ranges wr rfl _ rfl 9 (string_keyed Tryz.underlying9) (plainElem Tryz.prog 3) (fun x : List UInt8 => .string ⟨x.toArray⟩) (Value.int .i64) (fun key kl h => by obtain ⟨x, hx, _⟩ := Maps.keyOf_str Tryz.underlying9 h; exact ⟨x, hx⟩) (fun v y h => by obtain ⟨a, ha, _⟩ := plainElem_int_inv Tryz.underlying3 h; exact ⟨a, ha⟩) (M k) w.heap.size _ (toN n.names) left cnt rfl Hrg.out ?_ ?_)
        · intro _ hl0
          have Hv : RowKit.Hid (deepT T (f + 1) k = m) := Lib.hid (by
            rw [Hdv.out]
            exact fold_is _ _ 0 m (Nat.zero_le _) (fun q hq => Hq.out.2.1 q hq (hl0 _)) Hq.out.2.2)
          clear hl0
          go_wp2_with fail
          go_ret
          exact ⟨by rw [Hv.out]; rfl, HK.out⟩
        · intro x c kl yd yp w' cnt' hkey hlk hv hat hrg1 hlt hg1 hs1 hen
          obtain ⟨x', ex, rfl, _⟩ := Maps.keyOf_str Tryz.underlying9 hkey
          have ex2 : x' = x := by simpa [Go.Proofs.encStr] using ex.symm
          subst ex2
          have hgx := elem_of Tryz.underlying3 hv hat
          have Hin := Lib.hid ((getG_iff (HW.out.snames n Hm.out.1)).1 hgx)
          obtain ⟨_, nc, hnc, hcn⟩ := HW.out.closed n Hm.out.1 _ Hin.out
          have Hgc := Lib.hid ((get_iff HW.out.sorted).2 ⟨hnc, hcn⟩)
          have HK' : RowKit.Hid (Keep w w') := Lib.hid (HK.out.grown hg1 (fun i e => .inr (by injection e with e; omega)))
          have HT' := Lib.hid (HT.out.keep HK'.out)
          have d0 : w'.cell? ⟨p, 0, none⟩ = some (.map (some tb)) := blk_cell HT'.out.tree 0
          have hcb := (node_num HW.out Hgc.out).2
          have r1 := HT'.out.look1 HW.out.sorted Hgc.out hcb
          have h7 := HW.out.deep n Hm.out.1 (List.ne_nil_of_mem Hin.out)
          rw [Hm.out.2] at h7
          have h9 := H9.out Hd.out
          have Hfu : RowKit.Hid (1 ≤ f ∧ f ≤ 100 ∧ (nc.dir = true → 9 ≤ d c + f)) := Lib.hid ⟨by omega, by omega, fun hcd => by
            have := HW.out.depth n Hm.out.1 _ Hin.out nc hnc hcn hcd
            rw [Hm.out.2] at this
            simp only at this
            omega⟩
          have Hrg1 := Lib.hid hrg1
          have Hlt := Lib.hid (show cnt' < cnt from hlt)
          have Hleft := Lib.hid (Hrg.out.left_eq)
          clear hkey hlk hv hat hrg1 hlt hg1 hs1 ex hgx hnc hcn h7 h9 hcb
          go_wp2_with fail
          refine (IH.out c nc w' HT'.out Hgc.out Hfu.out.1 Hfu.out.2.1 Hfu.out.2.2).mono ?_
          rintro e w2 ⟨rfl, hk2⟩
          have HK2 := Lib.hid (HK'.out.keep hk2)
          have Hrg2 := Lib.hid (Hrg1.out.kept (grown_keep hk2) (by simp) (by simp))
          obtain ⟨dv, hdv⟩ : ∃ dv, deepT T f c = dv := ⟨_, rfl⟩
          have Hdl := deep_le (T := T) f c
          rw [hdv] at Hdl
          rw [hdv]
          have hm1 := Hq.out.1
          have hfb := Hfu.out.2.1
          have hmax : max (m : Int) (1 + (dv : Int)) = ((max m (1 + dv) : Nat) : Int) := by omega
          have Hq2 : RowKit.Hid (max m (1 + dv) ≤ 101 ∧ (∀ q ∈ n.names, (left (.string q.1) && !(Lit.string q.1).sameKey (.string x')) = false → 1 + deepT T f q.2 ≤ max m (1 + dv)) ∧ (max m (1 + dv) = 0 ∨ ∃ q ∈ n.names, max m (1 + dv) = 1 + deepT T f q.2)) := Lib.hid (by
            refine ⟨by omega, fun q hq hl => ?_, ?_⟩
            · cases hlq : left (.string q.1) with
              | false => have := Hq.out.2.1 q hq hlq; omega
              | true =>
                rw [hlq] at hl
                have e : q.1 = x' := by simpa [Lit.sameKey] using hl
                have e2 := name_inj (HW.out.snames n Hm.out.1) hq Hin.out e
                rw [e2]
                show 1 + deepT T f c ≤ _
                rw [hdv]; omega
            · by_cases hge : m ≤ 1 + dv
              · exact .inr ⟨_, Hin.out, by show _ = 1 + deepT T f c; rw [hdv]; omega⟩
              · rcases Hq.out.2.2 with h0 | ⟨q, hq, e⟩
                · omega
                · exact .inr ⟨q, hq, by omega⟩)
          clear hk2 hdv hen d0 r1
          go_wp2_with fail
          refine ⟨⟨_, cnt', max m (1 + dv), Hrg2.out, rfl, HK2.out, Hq2⟩, ?_⟩
          rw [Hrg2.out.left_eq, Hleft.out]
          exact Hlt.out
end
end Go.Proofs.YthmpblccplphfaaGreatDoor
