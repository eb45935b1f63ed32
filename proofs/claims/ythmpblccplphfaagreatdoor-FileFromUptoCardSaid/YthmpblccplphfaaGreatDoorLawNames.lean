/-
  The walk of FileNames.
-/
import Derived.Test.YthmpblccplphfaaGreatDoorFilFixed
import Derived.Test.YthmpblccplphfaaGreatDoorFilLaid
namespace Go.Proofs.YthmpblccplphfaaGreatDoor
open Go.RowKit
/-! ### a path and a name more -/
theorem nameOk_len {s : List UInt8} (h : nameOk s = true) : 1 ≤ s.length ∧ s.length ≤ 16 ∧ (47 : UInt8) ∉ s := by
  simp only [nameOk, Bool.and_eq_true, decide_eq_true_eq] at h
  refine ⟨h.1.1.1.2, h.1.1.2, fun hm => ?_⟩
  have := List.all_eq_true.1 h.1.1.1.1 _ hm
  revert this; decide
/-- a name behind a path -/
def pathPut (path s : List UInt8) : List UInt8 := if path = [47] then 47 :: s else path ++ 47 :: s
theorem path_put {path s : List UInt8} {q : List (List UInt8)} (h : pathOf path = some q) (hs : nameOk s = true) (hq : q.length ≤ 7) : pathOf (pathPut path s) = some (q ++ [s]) := by
  obtain ⟨h1, h16, hno⟩ := nameOk_len hs
  have hsne : s ≠ [] := fun e => by rw [e] at h1; simp at h1
  unfold pathPut
  by_cases hr : path = [47]
  · subst hr
    have : q = [] := by simpa [pathOf] using h.symm
    subst this
    rw [if_pos rfl]
    have e : spl 47 s = [s] := by
      have := spl_of_join 47 [s] (by simp) (by simpa using hno)
      simpa [List.intercalate] using this
    show (if s = [] then some [] else if (spl 47 s).length ≤ 8 ∧ (spl 47 s).all nameOk = true then some (spl 47 s) else none) = _
    rw [if_neg hsne, e, if_pos ⟨by simp, by simp [hs]⟩]; rfl
  · rw [if_neg hr]
    obtain ⟨r, rfl, ⟨e, _⟩ | ⟨hr2, e1, h8, hn⟩⟩ := path_shape h
    · exact absurd (by rw [e]) hr
    · have e : spl 47 (r ++ 47 :: s) = q ++ [s] := by
        have h3 : ∀ x ∈ q ++ [s], (47 : UInt8) ∉ x := by
          intro x hx
          rcases List.mem_append.1 hx with hx | hx
          · rw [e1] at hx; exact spl_no 47 r x hx
          · rw [List.mem_singleton] at hx; rw [hx]; exact hno
        have hqne : q ≠ [] := by rw [e1]; exact spl_ne 47 r
        have := spl_of_join 47 (q ++ [s]) (by simp) h3
        rw [inter_append q [s] hqne (by simp), e1, spl_join] at this
        rw [e1]
        simpa [List.intercalate] using this
      show (if r ++ 47 :: s = [] then some [] else if (spl 47 (r ++ 47 :: s)).length ≤ 8 ∧ (spl 47 (r ++ 47 :: s)).all nameOk = true then some (spl 47 (r ++ 47 :: s)) else none) = _
      rw [if_neg (by simp), e, if_pos ⟨by simp; omega, by rw [List.all_append, hn]; simp [hs]⟩]
theorem path_size {path : List UInt8} {q : List (List UInt8)} (h : pathOf path = some q) : path.length ≤ 1 + q.length * 17 := by
  obtain ⟨r, rfl, ⟨e, _⟩ | ⟨hr2, e1, h8, hn⟩⟩ := path_shape h
  · subst e; simp
  · have hj := spl_join 47 r
    rw [← e1] at hj
    have : ∀ l : List (List UInt8), l.all nameOk = true → ([(47 : UInt8)].intercalate l).length ≤ l.length * 17 := by
      intro l
      induction l with
      | nil => intro _; simp [List.intercalate]
      | cons x l ih =>
        intro ha
        simp only [List.all_cons, Bool.and_eq_true] at ha
        have h1 := (nameOk_len ha.1).2.1
        have h2 := ih ha.2
        cases l with
        | nil => simp [List.intercalate]; omega
        | cons y l =>
          have e : [(47 : UInt8)].intercalate (x :: y :: l) = x ++ 47 :: [(47 : UInt8)].intercalate (y :: l) := by simp [List.intercalate]
          rw [e, List.length_append, List.length_cons]
          simp only [List.length_cons] at h2 ⊢
          omega
    have := this q hn
    rw [hj] at this
    simp only [List.length_cons]; omega
/-! ### numbers in a row, one for each node -/
def CntRow (w : World) (b : Nat) (T : Tr) (C : Int → Nat) : Prop := ∃ cells : Array Value, World.blk w b cells 3 ∧ cells.size = T.length ∧ ∀ (i : Nat) (n : Nd), T[i]? = some n → cells[i]? = some (Value.int .i64 (C n.num : Int))
theorem CntRow.mod {w w' : World} {b : Nat} {T : Tr} {C : Int → Nat} {S : Nat → Prop} (h : CntRow w b T C) (m : Mod S w w') (hS : ¬ S b) : CntRow w' b T C := by
  obtain ⟨cells, h1, h2, h3⟩ := h
  exact ⟨cells, blk_mod m h1 hS, h2, h3⟩
theorem CntRow.lt {w : World} {b : Nat} {T : Tr} {C : Int → Nat} (h : CntRow w b T C) : b < w.heap.size := by
  obtain ⟨cells, h1, _⟩ := h; exact blk_lt h1
theorem CntRow.cell {w : World} {b : Nat} {T : Tr} {C : Int → Nat} (h : CntRow w b T C) {i : Nat} {n : Nd} (hn : T[i]? = some n) : w.cell? ⟨b, i, none⟩ = some (.int .i64 (C n.num : Int)) := by
  obtain ⟨cells, h1, _, h3⟩ := h
  rw [blk_cell h1 i]; exact h3 i n hn
theorem CntRow.free {w : World} {b : Nat} {T : Tr} {C : Int → Nat} (h : CntRow w b T C) (a : Addr) (ha : a.block = b) : w.frozen? a = false := by
  obtain ⟨cells, h1, _⟩ := h; exact blk_free h1 a ha
theorem CntRow.same {w : World} {b : Nat} {T : Tr} {C C' : Int → Nat} (h : CntRow w b T C) (e : ∀ n ∈ T, C n.num = C' n.num) : CntRow w b T C' := by
  obtain ⟨cells, h1, h2, h3⟩ := h
  exact ⟨cells, h1, h2, fun i n hn => by rw [← e n (List.mem_of_getElem? hn)]; exact h3 i n hn⟩
theorem CntRow.put {w : World} {b : Nat} {T : Tr} {C : Int → Nat} (h : CntRow w b T C) (hs : Sorted T) {i : Nat} {n : Nd} (hn : T[i]? = some n) (v : Nat) : CntRow (w.setCell ⟨b, i, none⟩ (.int .i64 (v : Int))) b T (fun j => if j = n.num then v else C j) := by
  obtain ⟨cells, h1, h2, h3⟩ := h
  refine ⟨_, blk_set h1 i _, by simp [h2], fun j m hm => ?_⟩
  have hi := (List.getElem?_eq_some_iff.1 hn).1
  by_cases e : i = j
  · subst e
    rw [hn] at hm
    obtain rfl := Option.some.inj hm
    rw [Array.getElem?_setIfInBounds_self_of_lt (by omega)]
    show _ = some (Value.int .i64 ((if n.num = n.num then v else C n.num : Nat) : Int))
    rw [if_pos rfl]
  · rw [Array.getElem?_setIfInBounds_ne e, h3 j m hm]
    show _ = some (Value.int .i64 ((if m.num = n.num then v else C m.num : Nat) : Int))
    rw [if_neg (fun e2 => ?_)]
    rcases Nat.lt_or_gt_of_ne e with h4 | h4
    · have := sorted_lt hs hn hm h4; omega
    · have := sorted_lt hs hm hn h4; omega
/-- what is still to come of a directory's names -/
def restS (l : Nm) (i : Nat) (g : List UInt8 × Int → Nat) : Nat := ((l.drop i).map g).sum
theorem rest_step (l : Nm) (i : Nat) (g : List UInt8 × Int → Nat) {x : List UInt8 × Int} (hx : l[i]? = some x) : restS l i g = g x + restS l (i + 1) g := by
  obtain ⟨hi, rfl⟩ := List.getElem?_eq_some_iff.1 hx
  unfold restS
  rw [List.drop_eq_getElem_cons hi]; rfl
theorem rest_end (l : Nm) (g : List UInt8 × Int → Nat) : restS l l.length g = 0 := by
  unfold restS; rw [List.drop_length]; rfl
theorem sub_mono (T : Tr) (φ ψ : Int → Nat) (h : ∀ i, φ i ≤ ψ i) : ∀ (f : Nat) (k : Int), subT T φ f k ≤ subT T ψ f k := by
  intro f
  induction f with
  | zero => intro k; exact Nat.le_refl _
  | succ f ih =>
    intro k
    show ((namesAt T k).map _).sum ≤ ((namesAt T k).map _).sum
    generalize namesAt T k = l
    induction l with
    | nil => exact Nat.le_refl _
    | cons x r ihl =>
      simp only [List.map_cons, List.sum_cons]
      have h1 := h x.2
      have h2 := ih x.2
      refine Nat.add_le_add ?_ ihl
      split <;> omega
section
variable {p cb : Nat} {T : Tr} {role : Nat → Role} {d : Int → Nat} {w0 : World} {v : Value}
set_option maxRecDepth 100000 in
set_option maxHeartbeats 8000000 in
theorem below_any (hw : WF T d) (he : Env w0) (hcb : role cb = .none) (hc0 : w0.heap.size ≤ cb) (hfv : ∀ b o n c, v = .slice (some ⟨b, o, none⟩) n c → b ≠ cb) : ∀ (f : Nat) (k : Int) (n : Nd) (path : List UInt8) (q : List (List UInt8)) (w : World) (C : Int → Nat) (s : Nat),
    TreeIn w0 w p T role → RowF nodeC 4 w v (toldT T) → CntRow w cb T C → pathOf path = some q → findT T 1 q = .ok k → T.get k = some n → n.dir = true → q.length + f = 8 → (∀ j, C j ≤ s) → s + subT T (fun _ => 1) f k ≤ 1000000 →
    Calls Tryz.prog 20 #[.pointer (some ⟨p, 0, none⟩), .string ⟨path.toArray⟩, v, .slice (some ⟨cb, 0, none⟩) T.length T.length, .int .i64 (q.length : Int)] w fun e w' => e = .returned (.bool true) ∧ CntRow w' cb T (fun j => C j + subT T (oneN j) f k) ∧ Mod (· = cb) w w' := by
  have HW := Lib.hid hw
  have He := Lib.hid he
  have HR := Lib.hid hcb
  have HFV := Lib.hid hfv
  have H0 := Lib.hid hc0
  clear hw he hcb hfv hc0
  intro f
  induction f using Nat.strongRecOn with
  | _ f ih =>
    intro k n path q w C s h hv hC hp hf hg hd h8 hCs hs
    obtain ⟨va, vcap, hve, hvx⟩ := hv
    rw [told_len] at hve
    subst hve
    have HT := Lib.hid h
    have HVX := Lib.hid hvx
    have HC := Lib.hid hC
    have Hp := Lib.hid hp
    have Hf := Lib.hid hf
    have Hg := Lib.hid hg
    have IH := Lib.hid ih
    obtain ⟨hm, hk⟩ := (get_iff HW.out.sorted).1 hg
    obtain ⟨r, hr, hr1, hrd, _⟩ := HW.out.root
    have hdk : d k = q.length := by
      have := (find_ok HW.out q 1 k ⟨r, hr, hr1⟩ hf).2 r ((get_iff HW.out.sorted).2 ⟨hr, hr1⟩) hrd n hg hd
      rw [this, HW.out.droot]; omega
    have h7 : n.names ≠ [] → q.length ≤ 7 := fun hne => by
      have := HW.out.deep n hm hne
      rw [hk, hdk] at this; exact this
    have hsub : ∀ φ, subT T φ f k = (n.names.map fun p => φ p.2 + if dirAt T p.2 = true then subT T φ (f - 1) p.2 else 0).sum := fun φ => by
      cases f with
      | zero =>
        have : n.names = [] := Classical.byContradiction fun hne => by have := h7 hne; omega
        rw [this]; rfl
      | succ f =>
        have := names_at HW.out.sorted hm
        rw [hk] at this
        show ((namesAt T k).map _).sum = _
        rw [this]; rfl
    have hnode : nodeT T path = .ok n := by
      unfold nodeT atT
      rw [hp]
      simp only [hf, hg]
    have hlist : listR (nodeT T path) = (n.names.map (·.1), 0) := by
      rw [hnode]
      show (if n.dir = true then _ else _) = _
      rw [if_pos hd]
    have hsize := path_size hp
    have Hm := Lib.hid (And.intro hm hk)
    have Hsub := Lib.hid hsub
    have H7 := Lib.hid h7
    have Hd := Lib.hid hd
    have H8 := Lib.hid h8
    have HCs := Lib.hid hCs
    have Hs := Lib.hid hs
    have Hsz := Lib.hid hsize
    have HL := Lib.hid hlist
    have hdeep : ¬ (8 : Int) < (q.length : Int) := by omega
    have h60 := (HW.out.names n hm).1
    have hroot : (path = [47]) = (q = []) := by
      apply propext
      constructor
      · rintro rfl
        have : some q = some [] := hp.symm.trans (by decide +kernel)
        exact Option.some.inj this
      · rintro rfl
        exact path_only hp
    have Hroot := Lib.hid hroot
    clear h hvx hC hp hf hg ih hd hm hk hr hr1 hrd hdk h7 hsub hnode hlist hsize hCs hs hroot h8
    go_enter Tryz.func20, Tryz.ntmps20
    go_wp2_with fail
    refine (list_in HT.out He.out path (by have := Hsz.out; have := H8.out; omega)).mono ?_
    rw [HL.out]
    rintro e w1 ⟨nv, rfl, hnv, hk1⟩
    have HT1 := Lib.hid (HT.out.kept hk1)
    have HK1 := Lib.hid hk1
    have HC1 := Lib.hid (HC.out.mod hk1 id)
    obtain ⟨na, ncap, hnv', hnx⟩ := row_strs hnv
    rw [srow_len, List.length_map] at hnv'
    subst hnv'
    have HN1 := Lib.hid hnv
    have HX := Lib.hid hnx
    have hcl := HC.out.lt
    have hn60 : n.names.length ≤ 60 := h60
    have hn60i : (n.names.length : Int) ≤ 60 := by omega
    clear hnv hnx hk1 h60 HC HT
    go_wp2_with fail
    go_loopw [13] (fun iv wr => ∃ (i : Nat) (C' : Int → Nat), i ≤ n.names.length ∧ iv = .int .i64 (i : Int) ∧ Mod (· = cb) w1 wr ∧ CntRow wr cb T C' ∧ RowKit.Hid ((∀ j, C' j + restS n.names i (fun p => oneN j p.2 + if dirAt T p.2 = true then subT T (oneN j) (f - 1) p.2 else 0) = C j + subT T (oneN j) f k)) ∧ RowKit.Hid (∃ s', (∀ j, C' j ≤ s') ∧ s' + restS n.names i (fun p => 1 + if dirAt T p.2 = true then subT T (fun _ => 1) (f - 1) p.2 else 0) = s + subT T (fun _ => 1) f k)) (fun iv _ => n.names.length - (intOf iv).toNat)
    case atStart =>
      exact ⟨0, C, by omega, rfl, Mod.refl _ _, HC1.out, Lib.hid fun j => by rw [Hsub.out]; rfl, Lib.hid ⟨s, HCs.out, by rw [Hsub.out]; rfl⟩⟩
    case round =>
      clear HC1
      obtain ⟨i, C', hi, rfl, hM, hC', Hq, Hs'⟩ := hrel
      have HM := Lib.hid hM
      have HC' := Lib.hid hC'
      clear hM hC'
      by_cases hlt : i < n.names.length
      · obtain ⟨x, hx⟩ : ∃ x, n.names[i]? = some x := ⟨_, List.getElem?_eq_getElem hlt⟩
        have hin := List.mem_of_getElem? hx
        obtain ⟨b, o, rfl, cs⟩ := HX.out i (.string ⟨x.1.toArray⟩) (by simp [srow, hx])
        have hbb := own_base HN1.out
        have cs' : wr.cell? ⟨b, o + i, none⟩ = some (.string ⟨x.1.toArray⟩) := by rw [HM.out.cell (lt_of_cell cs) (by show ¬ b = cb; omega)]; exact cs
        have hok := (HW.out.names n Hm.out.1).2 x hin
        obtain ⟨hc1, nc, hnc, hcn⟩ := HW.out.closed n Hm.out.1 x hin
        have hne : n.names ≠ [] := List.ne_nil_of_mem hin
        have hq7 := H7.out hne
        have hxl := (nameOk_len hok).2.1
        have Hgc := Lib.hid ((get_iff HW.out.sorted).2 ⟨hnc, hcn⟩)
        have HPp := Lib.hid (path_put Hp.out hok hq7)
        have HFf : RowKit.Hid (findT T 1 (q ++ [x.1]) = .ok x.2) := Lib.hid (find_snoc.2 ⟨k, n, Hf.out, Hg.out, Hd.out, (getG_iff (HW.out.snames n Hm.out.1)).2 hin⟩)
        have hpl := Hsz.out
        have hpl2 : path.length ≤ 200 := by omega
        have Hin := Lib.hid hin
        have Hx := Lib.hid hx
        have Hok := Lib.hid hok
        clear cs hin hx hok hnc hcn hpl hne
        have hlti : (i : Int) < n.names.length := by omega
        by_cases hr : path = [47]
        · subst hr
          have HP1 : RowKit.Hid (pathOf (47 :: x.1) = some (q ++ [x.1])) := Lib.hid HPp.out
          clear HPp
          go_wp2_with fail
          obtain ⟨P, hP⟩ : ∃ P : List UInt8, P = 47 :: x.1 := ⟨_, rfl⟩
          have HP2 : RowKit.Hid (pathOf P = some (q ++ [x.1])) := Lib.hid (by rw [hP]; exact HP1.out)
          rw [← hP]
          clear HP1 hP
          have hP17 := path_size HP2.out
          rw [List.length_append, List.length_singleton] at hP17
          have hPl : P.length < 4294967281 := by omega
          have hpe : pathErr P = 0 := by unfold pathErr; rw [HP2.out]; rfl
          have hnode : nodeT T P = .ok nc := by
            unfold nodeT atT
            rw [HP2.out]
            simp only [HFf.out, Hgc.out]
          have Hpe := Lib.hid hpe
          have Hnode := Lib.hid hnode
          have HTr := Lib.hid (HT1.out.mod HM.out (fun b hb => by rw [hb]; exact HR.out) (fun b hb => by rw [hb]; exact H0.out))
          clear hpe hnode hP17
          refine (rpath_any P wr hPl).mono ?_
          rw [Hpe.out]
          rintro e w2 ⟨pv, rfl, _, hk2⟩
          have HT2 := Lib.hid (HTr.out.kept hk2)
          have HK2 := Lib.hid hk2
          clear hk2 HTr
          go_wp2_with fail
          refine (get_in HT2.out He.out P hPl).mono ?_
          rw [Hnode.out]
          rintro e w3 ⟨rfl, hk3⟩
          have HT3 := Lib.hid (HT2.out.kept hk3)
          have HK3 := Lib.hid (HK2.out.keep hk3)
          have HC3 := Lib.hid (HC'.out.mod HK3.out id)
          clear hk3 HT2 HK2
          unfold getV
          go_wp2_with fail
          obtain ⟨K, hK⟩ := List.mem_iff_getElem?.1 ((get_iff HW.out.sorted).1 Hgc.out).1
          have hKl := (List.getElem?_eq_some_iff.1 hK).1
          have HKx := Lib.hid hK
          have HXB : RowKit.Hid (World.blk (w3.alloc (.cells #[.int .i64 nc.told.num, .bool nc.told.dir, .int .i64 nc.told.links, .string ⟨nc.told.data.toArray⟩] 41)) w3.heap.size #[.int .i64 nc.told.num, .bool nc.told.dir, .int .i64 nc.told.links, .string ⟨nc.told.data.toArray⟩] 41) := Lib.hid (blk_new _ _ _)
          have HKa : RowKit.Hid (Keep w3 (w3.alloc (.cells #[.int .i64 nc.told.num, .bool nc.told.dir, .int .i64 nc.told.links, .string ⟨nc.told.data.toArray⟩] 41))) := Lib.hid ((Mod.refl _ w3).alloc _)
          have HC4 := Lib.hid (HC3.out.mod HKa.out id)
          have HT4 := Lib.hid (HT3.out.kept HKa.out)
          have HM4 := Lib.hid ((HM.out.keep HK3.out).keep HKa.out)
          have hcb3 := HC3.out.lt
          have hncn := ((get_iff HW.out.sorted).1 Hgc.out).2
          have htn : nc.told.num = x.2 := hncn
          obtain ⟨s', hs'1, hs'2⟩ := Hs'.out
          have hstep := rest_step n.names i (fun p => 1 + if dirAt T p.2 = true then subT T (fun _ => 1) (f - 1) p.2 else 0) Hx.out
          have hsl : s' + 1 ≤ 1000000 := by have := Hs.out; omega
          have HS1 := Lib.hid hs'1
          have HS2 := Lib.hid hs'2
          have HStep := Lib.hid hstep
          have hT60 := HW.out.many
          clear hK HKa HC3 HT3 HK3 hncn hs'1 hs'2 hstep HM HC'
          generalize w3.alloc (.cells #[.int .i64 nc.told.num, .bool nc.told.dir, .int .i64 nc.told.links, .string ⟨nc.told.data.toArray⟩] 41) = w4 at *
          go_loopw [19] (fun mv wi => ∃ (m : Nat), m ≤ T.length ∧ mv = .int .i64 (m : Int) ∧ Mod (· = cb) w4 wi ∧ CntRow wi cb T (fun j => if j = x.2 ∧ K < m then C' j + 1 else C' j)) (fun mv _ => T.length - (intOf mv).toNat)
          case atStart =>
            exact ⟨0, by omega, rfl, Mod.refl _ _, HC4.out.same fun y _ => by rw [if_neg (by omega)]⟩
          case round =>
            clear HC4
            obtain ⟨m, hm, rfl, hMi, hCi⟩ := hrel
            have HMi := Lib.hid hMi
            have HCi := Lib.hid hCi
            clear hMi hCi
            have x0 : wr.cell? ⟨w3.heap.size, 0, none⟩ = some (.int .i64 nc.told.num) := by
              rw [HMi.out.cell (p := ⟨w3.heap.size, 0, none⟩) (blk_lt HXB.out) (by show ¬ w3.heap.size = cb; omega)]; exact blk_cell HXB.out 0
            by_cases hmT : m < T.length
            · obtain ⟨y, hy⟩ : ∃ y, T[m]? = some y := ⟨_, List.getElem?_eq_getElem hmT⟩
              have Hy := Lib.hid hy
              obtain ⟨vb, vo, rfl, q0⟩ := HVX.out m y.told (by simp [toldT, hy])
              have hvb := HFV.out vb vo _ _ rfl
              have hvl := lt_of_cell (q0 0 _ rfl)
              have y0 : wr.cell? ⟨vb, vo + m * 4, none⟩ = some (.int .i64 y.told.num) := by
                have h := q0 0 _ rfl
                have hk1 : w1.cell? ⟨vb, vo + m * 4, none⟩ = some (.int .i64 y.told.num) := by rw [HK1.out.cell (p := ⟨vb, vo + m * 4, none⟩) hvl id]; exact h
                have hk4 : w4.cell? ⟨vb, vo + m * 4, none⟩ = some (.int .i64 y.told.num) := by rw [HM4.out.cell (p := ⟨vb, vo + m * 4, none⟩) (lt_of_cell hk1) (by show ¬ vb = cb; exact hvb)]; exact hk1
                rw [HMi.out.cell (p := ⟨vb, vo + m * 4, none⟩) (lt_of_cell hk4) (by show ¬ vb = cb; exact hvb)]; exact hk4
              have hmi : (m : Int) < T.length := by omega
              clear q0 hy
              by_cases hmK : m = K
              · subst hmK
                have hyc : y = nc := Option.some.inj (Hy.out.symm.trans HKx.out)
                subst hyc
                have hq : (y.told.num == y.told.num) = true := beq_self_eq_true _
                have hcv : (if y.num = x.2 ∧ m < m then C' y.num + 1 else C' y.num) = C' y.num := if_neg (by omega)
                have cc : wr.cell? ⟨cb, m, none⟩ = some (.int .i64 (C' y.num : Int)) := by
                  have h := HCi.out.cell Hy.out
                  simp only [hcv] at h
                  exact h
                have cf : wr.frozen? ⟨cb, m, none⟩ = false := HCi.out.free _ rfl
                have hcb2 := HS1.out y.num
                have HCe : RowKit.Hid (CntRow (wr.setCell ⟨cb, m, none⟩ (.int .i64 ((C' y.num : Int) + 1))) cb T (fun j => if j = x.2 ∧ m < m + 1 then C' j + 1 else C' j)) := Lib.hid (by
                  have h := HCi.out.put HW.out.sorted Hy.out (C' y.num + 1)
                  rw [show ((C' y.num + 1 : Nat) : Int) = (C' y.num : Int) + 1 by omega] at h
                  refine h.same fun z _ => ?_
                  have e1 : y.num = x.2 := htn
                  by_cases hz : z.num = y.num
                  · rw [if_pos hz, if_pos ⟨hz.trans e1, by omega⟩, hz]
                  · rw [if_neg hz, if_neg (fun hh => hz (hh.1.trans e1.symm)), if_neg (fun hh => hz (hh.1.trans e1.symm))])
                have HMe : RowKit.Hid (Mod (· = cb) w4 (wr.setCell ⟨cb, m, none⟩ (.int .i64 ((C' y.num : Int) + 1)))) := Lib.hid (Mod.setCell HMi.out (.inl rfl) _)
                obtain ⟨Cx, hCx⟩ : ∃ Cx, C' y.num = Cx := ⟨_, rfl⟩
                rw [hCx] at cc hcb2 HCe HMe
                clear hCx hcv HCi
                go_wp2_with fail
                refine wp_region_qe0 (by kernel_rfl) (by kernel_rfl) ?_
                repeat (quiet_step (fail))
                refine wpQuiet_nil ?_
                intro _ hw'
                obtain ⟨nq, rfl⟩ := hw'
                go_wp2_with fail
                exact ⟨⟨m + 1, by omega, by go_num, HMe.out.drewN _, HCe.out.mod ((Mod.refl (fun _ => False) _).drewN _) id⟩, by simp [intOf]; omega⟩
              · have hne : (y.told.num == nc.told.num) = false := beq_false_of_ne fun e => hmK (by
                  rcases Nat.lt_trichotomy m K with h | h | h
                  · have h1 := sorted_lt HW.out.sorted Hy.out HKx.out h
                    have h2 : y.num = nc.num := e
                    omega
                  · exact h
                  · have h1 := sorted_lt HW.out.sorted HKx.out Hy.out h
                    have h2 : y.num = nc.num := e
                    omega)
                have HCe : RowKit.Hid (CntRow wr cb T (fun j => if j = x.2 ∧ K < m + 1 then C' j + 1 else C' j)) := Lib.hid (HCi.out.same fun z _ => by
                  by_cases hz : z.num = x.2 ∧ K < m
                  · rw [if_pos hz, if_pos ⟨hz.1, by omega⟩]
                  · rw [if_neg hz, if_neg (fun hh => hz ⟨hh.1, by omega⟩)])
                clear HCi
                go_wp2_with fail
                refine wp_region_qe0 (by kernel_rfl) (by kernel_rfl) ?_
                repeat (quiet_step (fail))
                refine wpQuiet_nil ?_
                intro _ hw'
                obtain ⟨nq, rfl⟩ := hw'
                go_wp2_with fail
                exact ⟨⟨m + 1, by omega, by go_num, HMi.out.drewN _, HCe.out.mod ((Mod.refl (fun _ => False) _).drewN _) id⟩, by simp [intOf]; omega⟩
            · obtain rfl : m = T.length := by omega
              have x1 : wr.cell? ⟨w3.heap.size, 1, none⟩ = some (.bool nc.told.dir) := by
                rw [HMi.out.cell (p := ⟨w3.heap.size, 1, none⟩) (blk_lt HXB.out) (by show ¬ w3.heap.size = cb; omega)]; exact blk_cell HXB.out 1
              have HCe : RowKit.Hid (CntRow wr cb T (fun j => C' j + oneN j x.2)) := Lib.hid (HCi.out.same fun z _ => by
                unfold oneN
                by_cases hz : z.num = x.2
                · rw [if_pos ⟨hz, hKl⟩, if_pos hz.symm]
                · rw [if_neg (fun hh => hz hh.1), if_neg (Ne.symm hz)]; rfl)
              have HM5 := Lib.hid (HM4.out.trans HMi.out (fun _ _ h => h))
              have HT5 : RowKit.Hid (TreeIn w0 wr p T role) := Lib.hid (HT4.out.mod HMi.out (fun b hb => by rw [hb]; exact HR.out) (fun b hb => by rw [hb]; exact H0.out))
              have hqs := fun j => rest_step n.names i (fun p => oneN j p.2 + if dirAt T p.2 = true then subT T (oneN j) (f - 1) p.2 else 0) Hx.out
              have Hqs := Lib.hid hqs
              clear hmT HCi HMi HT4 HM4 hqs x0
              have htd : nc.told.dir = nc.dir := rfl
              rw [htd] at x1
              cases hnd : nc.dir with
              | false =>
                rw [hnd] at x1
                have Hda : RowKit.Hid (dirAt T x.2 = false) := Lib.hid (by unfold dirAt; rw [Hgc.out]; exact hnd)
                clear hnd htd
                go_wp2_with fail
                refine ⟨⟨i + 1, _, by omega, by go_num, HM5.out, HCe.out, Lib.hid fun j => ?_, Lib.hid ⟨s' + 1, fun j => ?_, ?_⟩⟩, by simp [intOf]; omega⟩
                · have h := Hq.out j
                  rw [Hqs.out j, Hda.out] at h
                  simp only [Bool.false_eq_true, if_false, Nat.add_zero] at h
                  omega
                · have h := HS1.out j
                  unfold oneN
                  split <;> omega
                · have h := HS2.out
                  rw [HStep.out, Hda.out] at h
                  simp only [Bool.false_eq_true, if_false, Nat.add_zero] at h
                  omega
              | true =>
                rw [hnd] at x1
                have Hda : RowKit.Hid (dirAt T x.2 = true) := Lib.hid (by unfold dirAt; rw [Hgc.out]; exact hnd)
                have Hnd := Lib.hid hnd
                have hq1 : ((q ++ [x.1]).length : Int) = (q.length : Int) + 1 := by rw [List.length_append, List.length_singleton]; omega
                have Hq1 := Lib.hid hq1
                have HV5 : RowKit.Hid (RowF nodeC 4 wr (.slice va T.length vcap) (toldT T)) := Lib.hid (by
                  have h0 : RowF nodeC 4 w (.slice va T.length vcap) (toldT T) := ⟨va, vcap, by rw [told_len], HVX.out⟩
                  have h1 := rowF_keep h0 HK1.out
                  exact rowF_mod h1 HM5.out fun b o hh => by
                    obtain ⟨n', c', e⟩ := hh
                    exact HFV.out b o n' c' e)
                clear hnd htd hq1
                go_wp2_with fail
                rw [← Hq1.out]
                refine (IH.out (f - 1) (by have := H8.out; omega) x.2 nc P (q ++ [x.1]) wr _ (s' + 1) HT5.out HV5.out HCe.out HP2.out HFf.out Hgc.out Hnd.out (by rw [List.length_append, List.length_singleton]; have := H8.out; omega) (fun j => ?_) ?_).mono ?_
                · have h := HS1.out j
                  unfold oneN
                  split <;> omega
                · have h := HS2.out
                  rw [HStep.out, Hda.out] at h
                  simp only [if_true] at h
                  have := Hs.out
                  omega
                rintro e w5 ⟨rfl, hc5, hm5⟩
                have HC5 := Lib.hid hc5
                have HM6 := Lib.hid (HM5.out.trans hm5 (fun _ _ h => h))
                clear hc5 hm5 x1
                go_wp2_with fail
                refine ⟨⟨i + 1, _, by omega, by go_num, HM6.out, HC5.out, Lib.hid fun j => ?_, Lib.hid ⟨s' + 1 + subT T (fun _ => 1) (f - 1) x.2, fun j => ?_, ?_⟩⟩, by simp [intOf]; omega⟩
                · have h := Hq.out j
                  rw [Hqs.out j, Hda.out] at h
                  simp only [if_true] at h
                  omega
                · have h := HS1.out j
                  have h2 := sub_mono T (oneN j) (fun _ => 1) (fun i => by unfold oneN; split <;> omega) (f - 1) x.2
                  have h3 : oneN j x.2 ≤ 1 := by unfold oneN; split <;> omega
                  omega
                · have h := HS2.out
                  rw [HStep.out, Hda.out] at h
                  simp only [if_true] at h
                  omega
        · have HP1 : RowKit.Hid (pathOf (path ++ 47 :: x.1) = some (q ++ [x.1])) := Lib.hid (by have h := HPp.out; unfold pathPut at h; rw [if_neg hr] at h; exact h)
          have hrb : (path == [47]) = false := beq_false_of_ne hr
          clear HPp
          go_wp2_with fail
          obtain ⟨P, hP⟩ : ∃ P : List UInt8, P = path ++ 47 :: x.1 := ⟨_, rfl⟩
          have HP2 : RowKit.Hid (pathOf P = some (q ++ [x.1])) := Lib.hid (by rw [hP]; exact HP1.out)
          rw [← hP]
          clear HP1 hP
          have hP17 := path_size HP2.out
          rw [List.length_append, List.length_singleton] at hP17
          have hPl : P.length < 4294967281 := by omega
          have hpe : pathErr P = 0 := by unfold pathErr; rw [HP2.out]; rfl
          have hnode : nodeT T P = .ok nc := by
            unfold nodeT atT
            rw [HP2.out]
            simp only [HFf.out, Hgc.out]
          have Hpe := Lib.hid hpe
          have Hnode := Lib.hid hnode
          have HTr := Lib.hid (HT1.out.mod HM.out (fun b hb => by rw [hb]; exact HR.out) (fun b hb => by rw [hb]; exact H0.out))
          clear hpe hnode hP17
          refine (rpath_any P wr hPl).mono ?_
          rw [Hpe.out]
          rintro e w2 ⟨pv, rfl, _, hk2⟩
          have HT2 := Lib.hid (HTr.out.kept hk2)
          have HK2 := Lib.hid hk2
          clear hk2 HTr
          go_wp2_with fail
          refine (get_in HT2.out He.out P hPl).mono ?_
          rw [Hnode.out]
          rintro e w3 ⟨rfl, hk3⟩
          have HT3 := Lib.hid (HT2.out.kept hk3)
          have HK3 := Lib.hid (HK2.out.keep hk3)
          have HC3 := Lib.hid (HC'.out.mod HK3.out id)
          clear hk3 HT2 HK2
          unfold getV
          go_wp2_with fail
          obtain ⟨K, hK⟩ := List.mem_iff_getElem?.1 ((get_iff HW.out.sorted).1 Hgc.out).1
          have hKl := (List.getElem?_eq_some_iff.1 hK).1
          have HKx := Lib.hid hK
          have HXB : RowKit.Hid (World.blk (w3.alloc (.cells #[.int .i64 nc.told.num, .bool nc.told.dir, .int .i64 nc.told.links, .string ⟨nc.told.data.toArray⟩] 41)) w3.heap.size #[.int .i64 nc.told.num, .bool nc.told.dir, .int .i64 nc.told.links, .string ⟨nc.told.data.toArray⟩] 41) := Lib.hid (blk_new _ _ _)
          have HKa : RowKit.Hid (Keep w3 (w3.alloc (.cells #[.int .i64 nc.told.num, .bool nc.told.dir, .int .i64 nc.told.links, .string ⟨nc.told.data.toArray⟩] 41))) := Lib.hid ((Mod.refl _ w3).alloc _)
          have HC4 := Lib.hid (HC3.out.mod HKa.out id)
          have HT4 := Lib.hid (HT3.out.kept HKa.out)
          have HM4 := Lib.hid ((HM.out.keep HK3.out).keep HKa.out)
          have hcb3 := HC3.out.lt
          have hncn := ((get_iff HW.out.sorted).1 Hgc.out).2
          have htn : nc.told.num = x.2 := hncn
          obtain ⟨s', hs'1, hs'2⟩ := Hs'.out
          have hstep := rest_step n.names i (fun p => 1 + if dirAt T p.2 = true then subT T (fun _ => 1) (f - 1) p.2 else 0) Hx.out
          have hsl : s' + 1 ≤ 1000000 := by have := Hs.out; omega
          have HS1 := Lib.hid hs'1
          have HS2 := Lib.hid hs'2
          have HStep := Lib.hid hstep
          have hT60 := HW.out.many
          clear hK HKa HC3 HT3 HK3 hncn hs'1 hs'2 hstep HM HC'
          generalize w3.alloc (.cells #[.int .i64 nc.told.num, .bool nc.told.dir, .int .i64 nc.told.links, .string ⟨nc.told.data.toArray⟩] 41) = w4 at *
          go_loopw [19] (fun mv wi => ∃ (m : Nat), m ≤ T.length ∧ mv = .int .i64 (m : Int) ∧ Mod (· = cb) w4 wi ∧ CntRow wi cb T (fun j => if j = x.2 ∧ K < m then C' j + 1 else C' j)) (fun mv _ => T.length - (intOf mv).toNat)
          case atStart =>
            exact ⟨0, by omega, rfl, Mod.refl _ _, HC4.out.same fun y _ => by rw [if_neg (by omega)]⟩
          case round =>
            clear HC4
            obtain ⟨m, hm, rfl, hMi, hCi⟩ := hrel
            have HMi := Lib.hid hMi
            have HCi := Lib.hid hCi
            clear hMi hCi
            have x0 : wr.cell? ⟨w3.heap.size, 0, none⟩ = some (.int .i64 nc.told.num) := by
              rw [HMi.out.cell (p := ⟨w3.heap.size, 0, none⟩) (blk_lt HXB.out) (by show ¬ w3.heap.size = cb; omega)]; exact blk_cell HXB.out 0
            by_cases hmT : m < T.length
            · obtain ⟨y, hy⟩ : ∃ y, T[m]? = some y := ⟨_, List.getElem?_eq_getElem hmT⟩
              have Hy := Lib.hid hy
              obtain ⟨vb, vo, rfl, q0⟩ := HVX.out m y.told (by simp [toldT, hy])
              have hvb := HFV.out vb vo _ _ rfl
              have hvl := lt_of_cell (q0 0 _ rfl)
              have y0 : wr.cell? ⟨vb, vo + m * 4, none⟩ = some (.int .i64 y.told.num) := by
                have h := q0 0 _ rfl
                have hk1 : w1.cell? ⟨vb, vo + m * 4, none⟩ = some (.int .i64 y.told.num) := by rw [HK1.out.cell (p := ⟨vb, vo + m * 4, none⟩) hvl id]; exact h
                have hk4 : w4.cell? ⟨vb, vo + m * 4, none⟩ = some (.int .i64 y.told.num) := by rw [HM4.out.cell (p := ⟨vb, vo + m * 4, none⟩) (lt_of_cell hk1) (by show ¬ vb = cb; exact hvb)]; exact hk1
                rw [HMi.out.cell (p := ⟨vb, vo + m * 4, none⟩) (lt_of_cell hk4) (by show ¬ vb = cb; exact hvb)]; exact hk4
              have hmi : (m : Int) < T.length := by omega
              clear q0 hy
              by_cases hmK : m = K
              · subst hmK
                have hyc : y = nc := Option.some.inj (Hy.out.symm.trans HKx.out)
                subst hyc
                have hq : (y.told.num == y.told.num) = true := beq_self_eq_true _
                have hcv : (if y.num = x.2 ∧ m < m then C' y.num + 1 else C' y.num) = C' y.num := if_neg (by omega)
                have cc : wr.cell? ⟨cb, m, none⟩ = some (.int .i64 (C' y.num : Int)) := by
                  have h := HCi.out.cell Hy.out
                  simp only [hcv] at h
                  exact h
                have cf : wr.frozen? ⟨cb, m, none⟩ = false := HCi.out.free _ rfl
                have hcb2 := HS1.out y.num
                have HCe : RowKit.Hid (CntRow (wr.setCell ⟨cb, m, none⟩ (.int .i64 ((C' y.num : Int) + 1))) cb T (fun j => if j = x.2 ∧ m < m + 1 then C' j + 1 else C' j)) := Lib.hid (by
                  have h := HCi.out.put HW.out.sorted Hy.out (C' y.num + 1)
                  rw [show ((C' y.num + 1 : Nat) : Int) = (C' y.num : Int) + 1 by omega] at h
                  refine h.same fun z _ => ?_
                  have e1 : y.num = x.2 := htn
                  by_cases hz : z.num = y.num
                  · rw [if_pos hz, if_pos ⟨hz.trans e1, by omega⟩, hz]
                  · rw [if_neg hz, if_neg (fun hh => hz (hh.1.trans e1.symm)), if_neg (fun hh => hz (hh.1.trans e1.symm))])
                have HMe : RowKit.Hid (Mod (· = cb) w4 (wr.setCell ⟨cb, m, none⟩ (.int .i64 ((C' y.num : Int) + 1)))) := Lib.hid (Mod.setCell HMi.out (.inl rfl) _)
                obtain ⟨Cx, hCx⟩ : ∃ Cx, C' y.num = Cx := ⟨_, rfl⟩
                rw [hCx] at cc hcb2 HCe HMe
                clear hCx hcv HCi
                go_wp2_with fail
                refine wp_region_qe0 (by kernel_rfl) (by kernel_rfl) ?_
                repeat (quiet_step (fail))
                refine wpQuiet_nil ?_
                intro _ hw'
                obtain ⟨nq, rfl⟩ := hw'
                go_wp2_with fail
                exact ⟨⟨m + 1, by omega, by go_num, HMe.out.drewN _, HCe.out.mod ((Mod.refl (fun _ => False) _).drewN _) id⟩, by simp [intOf]; omega⟩
              · have hne : (y.told.num == nc.told.num) = false := beq_false_of_ne fun e => hmK (by
                  rcases Nat.lt_trichotomy m K with h | h | h
                  · have h1 := sorted_lt HW.out.sorted Hy.out HKx.out h
                    have h2 : y.num = nc.num := e
                    omega
                  · exact h
                  · have h1 := sorted_lt HW.out.sorted HKx.out Hy.out h
                    have h2 : y.num = nc.num := e
                    omega)
                have HCe : RowKit.Hid (CntRow wr cb T (fun j => if j = x.2 ∧ K < m + 1 then C' j + 1 else C' j)) := Lib.hid (HCi.out.same fun z _ => by
                  by_cases hz : z.num = x.2 ∧ K < m
                  · rw [if_pos hz, if_pos ⟨hz.1, by omega⟩]
                  · rw [if_neg hz, if_neg (fun hh => hz ⟨hh.1, by omega⟩)])
                clear HCi
                go_wp2_with fail
                refine wp_region_qe0 (by kernel_rfl) (by kernel_rfl) ?_
                repeat (quiet_step (fail))
                refine wpQuiet_nil ?_
                intro _ hw'
                obtain ⟨nq, rfl⟩ := hw'
                go_wp2_with fail
                exact ⟨⟨m + 1, by omega, by go_num, HMi.out.drewN _, HCe.out.mod ((Mod.refl (fun _ => False) _).drewN _) id⟩, by simp [intOf]; omega⟩
            · obtain rfl : m = T.length := by omega
              have x1 : wr.cell? ⟨w3.heap.size, 1, none⟩ = some (.bool nc.told.dir) := by
                rw [HMi.out.cell (p := ⟨w3.heap.size, 1, none⟩) (blk_lt HXB.out) (by show ¬ w3.heap.size = cb; omega)]; exact blk_cell HXB.out 1
              have HCe : RowKit.Hid (CntRow wr cb T (fun j => C' j + oneN j x.2)) := Lib.hid (HCi.out.same fun z _ => by
                unfold oneN
                by_cases hz : z.num = x.2
                · rw [if_pos ⟨hz, hKl⟩, if_pos hz.symm]
                · rw [if_neg (fun hh => hz hh.1), if_neg (Ne.symm hz)]; rfl)
              have HM5 := Lib.hid (HM4.out.trans HMi.out (fun _ _ h => h))
              have HT5 : RowKit.Hid (TreeIn w0 wr p T role) := Lib.hid (HT4.out.mod HMi.out (fun b hb => by rw [hb]; exact HR.out) (fun b hb => by rw [hb]; exact H0.out))
              have hqs := fun j => rest_step n.names i (fun p => oneN j p.2 + if dirAt T p.2 = true then subT T (oneN j) (f - 1) p.2 else 0) Hx.out
              have Hqs := Lib.hid hqs
              clear hmT HCi HMi HT4 HM4 hqs x0
              have htd : nc.told.dir = nc.dir := rfl
              rw [htd] at x1
              cases hnd : nc.dir with
              | false =>
                rw [hnd] at x1
                have Hda : RowKit.Hid (dirAt T x.2 = false) := Lib.hid (by unfold dirAt; rw [Hgc.out]; exact hnd)
                clear hnd htd
                go_wp2_with fail
                refine ⟨⟨i + 1, _, by omega, by go_num, HM5.out, HCe.out, Lib.hid fun j => ?_, Lib.hid ⟨s' + 1, fun j => ?_, ?_⟩⟩, by simp [intOf]; omega⟩
                · have h := Hq.out j
                  rw [Hqs.out j, Hda.out] at h
                  simp only [Bool.false_eq_true, if_false, Nat.add_zero] at h
                  omega
                · have h := HS1.out j
                  unfold oneN
                  split <;> omega
                · have h := HS2.out
                  rw [HStep.out, Hda.out] at h
                  simp only [Bool.false_eq_true, if_false, Nat.add_zero] at h
                  omega
              | true =>
                rw [hnd] at x1
                have Hda : RowKit.Hid (dirAt T x.2 = true) := Lib.hid (by unfold dirAt; rw [Hgc.out]; exact hnd)
                have Hnd := Lib.hid hnd
                have hq1 : ((q ++ [x.1]).length : Int) = (q.length : Int) + 1 := by rw [List.length_append, List.length_singleton]; omega
                have Hq1 := Lib.hid hq1
                have HV5 : RowKit.Hid (RowF nodeC 4 wr (.slice va T.length vcap) (toldT T)) := Lib.hid (by
                  have h0 : RowF nodeC 4 w (.slice va T.length vcap) (toldT T) := ⟨va, vcap, by rw [told_len], HVX.out⟩
                  have h1 := rowF_keep h0 HK1.out
                  exact rowF_mod h1 HM5.out fun b o hh => by
                    obtain ⟨n', c', e⟩ := hh
                    exact HFV.out b o n' c' e)
                clear hnd htd hq1
                go_wp2_with fail
                rw [← Hq1.out]
                refine (IH.out (f - 1) (by have := H8.out; omega) x.2 nc P (q ++ [x.1]) wr _ (s' + 1) HT5.out HV5.out HCe.out HP2.out HFf.out Hgc.out Hnd.out (by rw [List.length_append, List.length_singleton]; have := H8.out; omega) (fun j => ?_) ?_).mono ?_
                · have h := HS1.out j
                  unfold oneN
                  split <;> omega
                · have h := HS2.out
                  rw [HStep.out, Hda.out] at h
                  simp only [if_true] at h
                  have := Hs.out
                  omega
                rintro e w5 ⟨rfl, hc5, hm5⟩
                have HC5 := Lib.hid hc5
                have HM6 := Lib.hid (HM5.out.trans hm5 (fun _ _ h => h))
                clear hc5 hm5 x1
                go_wp2_with fail
                refine ⟨⟨i + 1, _, by omega, by go_num, HM6.out, HC5.out, Lib.hid fun j => ?_, Lib.hid ⟨s' + 1 + subT T (fun _ => 1) (f - 1) x.2, fun j => ?_, ?_⟩⟩, by simp [intOf]; omega⟩
                · have h := Hq.out j
                  rw [Hqs.out j, Hda.out] at h
                  simp only [if_true] at h
                  omega
                · have h := HS1.out j
                  have h2 := sub_mono T (oneN j) (fun _ => 1) (fun i => by unfold oneN; split <;> omega) (f - 1) x.2
                  have h3 : oneN j x.2 ≤ 1 := by unfold oneN; split <;> omega
                  omega
                · have h := HS2.out
                  rw [HStep.out, Hda.out] at h
                  simp only [if_true] at h
                  omega
      · obtain rfl : i = n.names.length := by omega
        have HCe : RowKit.Hid (CntRow wr cb T (fun j => C j + subT T (oneN j) f k)) := Lib.hid (HC'.out.same fun m _ => by
          have h := Hq.out m.num
          rw [rest_end] at h
          exact h)
        clear hlt
        go_wp2_with fail
        go_ret
        exact ⟨rfl, HCe.out, (HK1.out.mono (fun _ _ h => h.elim)).trans HM.out (fun _ _ h => h)⟩
end
theorem run_make_int {P : Program} {ts te : TypeId} (hs : P.underlying ts = some (.slice te)) (hi : (P.info? te).map (fun i => (i.zero, i.size, i.bytes)) = some (some (.int .i64 0), 1, 8)) (r : Nat) (hr : r ≤ 1000000) (W : World) :
    (Instr.makeSlice ts (.int .i64 r) (.int .i64 r)).run P W = .ok (.slice (some ⟨W.heap.size, 0, none⟩) r r) (W.alloc (.cells (Array.replicate r (.int .i64 0)) te)) := by
  obtain ⟨i0, hi, hz0, hz1, hz2⟩ := info_parts hi
  have h := run_make (P := P) W ts te i0 (.int .i64 0) hs hi hz0 .i64 .i64 (r : Int) (r : Int) (by omega) (Int.le_refl _) (by rw [hz2]; omega) (by omega)
  rwa [Int.toNat_natCast, hz1, Nat.mul_one, made_one _ rfl] at h
theorem rowF_lt {v : Value} {l : List Nt} {w : World} (h : RowF nodeC 4 w v l) (hne : ∃ x, x ∈ l) : ∀ b o n c, v = .slice (some ⟨b, o, none⟩) n c → b < w.heap.size := by
  intro b o n c e
  obtain ⟨a, cap, hv, hx⟩ := h
  obtain ⟨x, hm⟩ := hne
  obtain ⟨j, hj⟩ := List.mem_iff_getElem?.1 hm
  obtain ⟨b1, o1, rfl, q⟩ := hx j x hj
  have h1 := lt_of_cell (q 0 _ rfl)
  rw [hv] at e
  injection e with e2
  injection e2 with e3
  injection e3 with e4
  rw [← e4]; exact h1
set_option maxRecDepth 100000 in
set_option maxHeartbeats 8000000 in
theorem law_names (v : Value) (l : List Cmd) (w : World) (he : Env w) (hv : RowF cmdL 5 w v l) (hl : l.length ≤ 1048576) (hc : ∀ c ∈ l, c.Small) :
    Calls Tryz.prog 8 #[v] w fun e w' => e = .returned (.bool true) ∧ Keep w w' := by
  obtain ⟨av, cap, rfl, hrow⟩ := hv
  have He := Lib.hid he
  have HR := Lib.hid hrow
  have HC := Lib.hid hc
  have hn : (l.length : Int) ≤ 1048576 := by omega
  clear he hrow hc
  go_enter Tryz.func8, Tryz.ntmps8
  go_wp2_with fail
  refine (new_in w w (Mod.refl _ _)).mono ?_
  rintro e w1 ⟨p, ro, rfl, h1, _, _⟩
  have H1 := Lib.hid h1
  clear h1
  go_wp2_with fail
  go_loopw [4] (fun i wr => ∃ (k : Nat) (T : Tr) (role : Nat → Role), k ≤ l.length ∧ k ≤ 100 ∧ i = .int .i64 (k : Int) ∧ TreeIn w wr p T role) (fun i _ => 100 - (intOf i).toNat)
  case atStart => exact ⟨0, _, ro, by omega, by omega, rfl, H1.out⟩
  case round =>
    clear H1
    obtain ⟨k, T, role, hkn, hk100, rfl, hT⟩ := hrel
    have HT := Lib.hid hT
    clear hT
    by_cases hlt : k < l.length ∧ k < 100
    · obtain ⟨hlt1, hlt2⟩ := hlt
      obtain ⟨c, hcx⟩ : ∃ c, l[k]? = some c := ⟨_, List.getElem?_eq_getElem hlt1⟩
      have Hsm := Lib.hid (HC.out c (List.mem_of_getElem? hcx))
      obtain ⟨b, o, rfl, hcell⟩ := HR.out k c hcx
      have HCell := Lib.hid hcell
      have d1 : (k : Int) < 100 := by omega
      have d2 : (k : Int) < l.length := by omega
      have c0 : wr.cell? ⟨b, o + k * 5, none⟩ = some (.int .i64 c.kind) := by have h := HCell.out 0 _ rfl; rw [HT.out.keep.cell (p := ⟨b, o + k * 5, none⟩) (lt_of_cell h) id]; exact h
      have c1 : wr.cell? ⟨b, o + k * 5 + 1, none⟩ = some (.string ⟨c.path.toArray⟩) := by have h := HCell.out 1 _ rfl; rw [HT.out.keep.cell (p := ⟨b, o + k * 5 + 1, none⟩) (lt_of_cell h) id]; exact h
      have c2 : wr.cell? ⟨b, o + k * 5 + 2, none⟩ = some (.string ⟨c.dest.toArray⟩) := by have h := HCell.out 2 _ rfl; rw [HT.out.keep.cell (p := ⟨b, o + k * 5 + 2, none⟩) (lt_of_cell h) id]; exact h
      have c3 : wr.cell? ⟨b, o + k * 5 + 3, none⟩ = some (.int .i64 c.pos) := by have h := HCell.out 3 _ rfl; rw [HT.out.keep.cell (p := ⟨b, o + k * 5 + 3, none⟩) (lt_of_cell h) id]; exact h
      have c4 : wr.cell? ⟨b, o + k * 5 + 4, none⟩ = some (.string ⟨c.data.toArray⟩) := by have h := HCell.out 4 _ rfl; rw [HT.out.keep.cell (p := ⟨b, o + k * 5 + 4, none⟩) (lt_of_cell h) id]; exact h
      clear hcell hcx
      go_wp2_with fail
      refine (do_in HT.out He.out c Hsm.out).mono ?_
      rintro e w3 ⟨rfl, r3, h3, _, _⟩
      have H3 := Lib.hid h3
      clear h3 c0 c1 c2 c3 c4 HT
      go_wp2_with fail
      exact ⟨⟨k + 1, _, r3, by omega, by omega, by go_num, H3.out⟩, by simp [intOf]; omega⟩
    · by_cases hk2 : k < l.length
      · obtain rfl : k = 100 := by omega
        have hkn3 : (100 : Int) < l.length := by omega
        have hwfx := HT.out.wf
        obtain ⟨d, hw⟩ := hwfx
        have HW := Lib.hid hw
        have h60 := hw.many
        have hmk := fun W => run_make_int (P := Tryz.prog) (ts := 44) (te := 3) Tryz.underlying44 (by kernel_rfl) T.length (by omega) W
        clear hw hlt
        go_wp2_with fail
        refine (nodes_in HT.out).mono ?_
        rintro e w2 ⟨v1, rfl, ho2, hk2⟩
        have H2 := Lib.hid (HT.out.kept hk2)
        have hrow2 := rowF_own nodeC_len ho2
        have hb2 := rowF_lt hrow2 (by
          obtain ⟨r, hr, _⟩ := HW.out.root
          exact ⟨_, List.mem_map.2 ⟨r, hr, rfl⟩⟩)
        have hv2 := hrow2
        obtain ⟨va, vcap, hve, hvx⟩ := hrow2
        rw [told_len] at hve
        subst hve
        have HB2 := Lib.hid hb2
        have HV2 := Lib.hid hv2
        have HVX := Lib.hid hvx
        have h60i : (T.length : Int) ≤ 60 := by omega
        clear ho2 hk2 hb2 hv2 hvx HT
        go_wp2_with fail
        have HK3 : RowKit.Hid (Keep w2 (w2.alloc (.cells (Array.replicate T.length (.int .i64 0)) 3))) := Lib.hid ((Mod.refl _ w2).alloc _)
        have HC3 : RowKit.Hid (CntRow (w2.alloc (.cells (Array.replicate T.length (.int .i64 0)) 3)) w2.heap.size T (fun _ => 0)) := Lib.hid ⟨_, blk_new _ _ _, by simp, fun i n hn => by
          have := (List.getElem?_eq_some_iff.1 hn).1
          simp [this]⟩
        have hcb : role w2.heap.size = .none := H2.out.old (Nat.le_refl _)
        have hc0 := H2.out.keep.size
        have hfv : ∀ b o n c, Value.slice va T.length vcap = .slice (some ⟨b, o, none⟩) n c → b ≠ w2.heap.size := fun b o n c e => by
          have := HB2.out b o n c e; omega
        have H3 := Lib.hid (H2.out.kept HK3.out)
        have HV3 := Lib.hid (rowF_keep HV2.out HK3.out)
        have Hcb := Lib.hid hcb
        generalize w2.alloc (.cells (Array.replicate T.length (.int .i64 0)) 3) = w3 at *
        obtain ⟨cb, hcbe⟩ : ∃ cb, w2.heap.size = cb := ⟨_, rfl⟩
        rw [hcbe] at HC3 hcb hc0 hfv Hcb
        rw [hcbe]
        obtain ⟨r, hr, hr1, hrd, _⟩ := HW.out.root
        refine (below_any HW.out He.out hcb hc0 hfv 8 1 r [47] [] w3 (fun _ => 0) 0 H3.out HV3.out HC3.out (by decide +kernel) rfl ((get_iff HW.out.sorted).2 ⟨hr, hr1⟩) hrd rfl (fun _ => Nat.le_refl _) (by have := sub_len HW.out; omega)).mono ?_
        rintro e w4 ⟨rfl, hc4, hm4⟩
        have HC4 : RowKit.Hid (CntRow w4 cb T (fun j => cnt T j)) := Lib.hid (hc4.same fun n _ => by
          show 0 + subT T (oneN n.num) 8 1 = _
          rw [sub_cnt HW.out]; omega)
        have H4 := Lib.hid (H3.out.mod hm4 (fun b hb => by rw [hb]; exact Hcb.out) (fun b hb => by rw [hb]; exact hc0))
        have HV4 := Lib.hid (rowF_mod HV3.out hm4 fun b o hh => by
          obtain ⟨n', c', e⟩ := hh
          exact hfv b o n' c' e)
        clear hr hr1 hrd hc4 hm4 HC3 H3 HV3 hfv H2 HV2 HB2 HVX HK3 hcb
        go_wp2_with fail
        go_loopw [7] (fun mv wr => ∃ (m : Nat), m ≤ T.length ∧ mv = .int .i64 (m : Int) ∧ Keep w4 wr) (fun mv _ => T.length - (intOf mv).toNat)
        case atStart => exact ⟨0, by omega, rfl, Mod.refl _ _⟩
        case round =>
          obtain ⟨m, hm, rfl, hKm⟩ := hrel
          have HKm := Lib.hid hKm
          clear hKm
          by_cases hmT : m < T.length
          · obtain ⟨y, hy⟩ : ∃ y, T[m]? = some y := ⟨_, List.getElem?_eq_getElem hmT⟩
            have hym := List.mem_of_getElem? hy
            obtain ⟨va2, vcap2, hve, hvx⟩ := rowF_keep HV4.out HKm.out
            rw [told_len] at hve
            injection hve with e1 e2 e3
            subst e1
            obtain ⟨vb, vo, rfl, q0⟩ := hvx m y.told (by simp [toldT, hy])
            have y0 : wr.cell? ⟨vb, vo + m * 4, none⟩ = some (.int .i64 y.told.num) := q0 0 _ rfl
            have y2 : wr.cell? ⟨vb, vo + m * 4 + 2, none⟩ = some (.int .i64 y.told.links) := q0 2 _ rfl
            have cc : wr.cell? ⟨cb, m, none⟩ = some (.int .i64 (cnt T y.num : Int)) := (HC4.out.mod HKm.out id).cell hy
            have hmi : (m : Int) < T.length := by omega
            have Hy := Lib.hid hym
            clear q0 hvx hy hym e3
            by_cases h1 : y.num = 1
            · have hc : cnt T y.num = 0 := by
                rw [h1]; exact cnt_zero fun n hn p hp => (HW.out.closed n hn p hp).1
              have t1 : y.told.num = 1 := h1
              rw [t1] at y0
              rw [hc, show ((0 : Nat) : Int) = 0 from rfl] at cc
              clear h1 hc t1
              go_wp2_with fail
              refine wp_region_qe0 (by kernel_rfl) (by kernel_rfl) ?_
              repeat (go_big_quiet_step (fail))
              refine wpQuiet_nil ?_
              intro _ hw'
              obtain ⟨nq, rfl⟩ := hw'
              go_wp2_with fail
              exact ⟨⟨m + 1, by omega, by go_num, HKm.out.drewN _⟩, by simp [intOf]; omega⟩
            · have hc := (HW.out.count y Hy.out h1).1
              have t1 : (y.told.num == 1) = false := beq_false_of_ne h1
              have t2 : (y.told.num != 1) = true := bne_iff_ne.2 h1
              have t3 : y.told.links = (cnt T y.num : Int) := by show y.links = _; omega
              rw [t3] at y2
              have t4 : ((cnt T y.num : Int) != (cnt T y.num : Int)) = false := by simp
              clear h1 hc t3
              go_wp2_with fail
              refine wp_region_qe0 (by kernel_rfl) (by kernel_rfl) ?_
              repeat (go_big_quiet_step (fail))
              refine wpQuiet_nil ?_
              intro _ hw'
              obtain ⟨nq, rfl⟩ := hw'
              go_wp2_with fail
              exact ⟨⟨m + 1, by omega, by go_num, HKm.out.drewN _⟩, by simp [intOf]; omega⟩
          · obtain rfl : m = T.length := by omega
            have H5 := Lib.hid (H4.out.kept HKm.out)
            clear hmT
            go_wp2_with fail
            refine (fixed_any wr (He.out.keep H5.out.keep)).mono ?_
            rintro e w6 ⟨rfl, hk6⟩
            have HK6 := Lib.hid (H5.out.keep.keep hk6)
            clear hk6
            go_wp2_with fail
            go_ret
            exact ⟨rfl, HK6.out⟩
      · obtain rfl : k = l.length := by omega
        have hwfx := HT.out.wf
        obtain ⟨d, hw⟩ := hwfx
        have HW := Lib.hid hw
        have h60 := hw.many
        have hmk := fun W => run_make_int (P := Tryz.prog) (ts := 44) (te := 3) Tryz.underlying44 (by kernel_rfl) T.length (by omega) W
        clear hw hlt
        go_wp2_with fail
        refine (nodes_in HT.out).mono ?_
        rintro e w2 ⟨v1, rfl, ho2, hk2⟩
        have H2 := Lib.hid (HT.out.kept hk2)
        have hrow2 := rowF_own nodeC_len ho2
        have hb2 := rowF_lt hrow2 (by
          obtain ⟨r, hr, _⟩ := HW.out.root
          exact ⟨_, List.mem_map.2 ⟨r, hr, rfl⟩⟩)
        have hv2 := hrow2
        obtain ⟨va, vcap, hve, hvx⟩ := hrow2
        rw [told_len] at hve
        subst hve
        have HB2 := Lib.hid hb2
        have HV2 := Lib.hid hv2
        have HVX := Lib.hid hvx
        have h60i : (T.length : Int) ≤ 60 := by omega
        clear ho2 hk2 hb2 hv2 hvx HT
        go_wp2_with fail
        have HK3 : RowKit.Hid (Keep w2 (w2.alloc (.cells (Array.replicate T.length (.int .i64 0)) 3))) := Lib.hid ((Mod.refl _ w2).alloc _)
        have HC3 : RowKit.Hid (CntRow (w2.alloc (.cells (Array.replicate T.length (.int .i64 0)) 3)) w2.heap.size T (fun _ => 0)) := Lib.hid ⟨_, blk_new _ _ _, by simp, fun i n hn => by
          have := (List.getElem?_eq_some_iff.1 hn).1
          simp [this]⟩
        have hcb : role w2.heap.size = .none := H2.out.old (Nat.le_refl _)
        have hc0 := H2.out.keep.size
        have hfv : ∀ b o n c, Value.slice va T.length vcap = .slice (some ⟨b, o, none⟩) n c → b ≠ w2.heap.size := fun b o n c e => by
          have := HB2.out b o n c e; omega
        have H3 := Lib.hid (H2.out.kept HK3.out)
        have HV3 := Lib.hid (rowF_keep HV2.out HK3.out)
        have Hcb := Lib.hid hcb
        generalize w2.alloc (.cells (Array.replicate T.length (.int .i64 0)) 3) = w3 at *
        obtain ⟨cb, hcbe⟩ : ∃ cb, w2.heap.size = cb := ⟨_, rfl⟩
        rw [hcbe] at HC3 hcb hc0 hfv Hcb
        rw [hcbe]
        obtain ⟨r, hr, hr1, hrd, _⟩ := HW.out.root
        refine (below_any HW.out He.out hcb hc0 hfv 8 1 r [47] [] w3 (fun _ => 0) 0 H3.out HV3.out HC3.out (by decide +kernel) rfl ((get_iff HW.out.sorted).2 ⟨hr, hr1⟩) hrd rfl (fun _ => Nat.le_refl _) (by have := sub_len HW.out; omega)).mono ?_
        rintro e w4 ⟨rfl, hc4, hm4⟩
        have HC4 : RowKit.Hid (CntRow w4 cb T (fun j => cnt T j)) := Lib.hid (hc4.same fun n _ => by
          show 0 + subT T (oneN n.num) 8 1 = _
          rw [sub_cnt HW.out]; omega)
        have H4 := Lib.hid (H3.out.mod hm4 (fun b hb => by rw [hb]; exact Hcb.out) (fun b hb => by rw [hb]; exact hc0))
        have HV4 := Lib.hid (rowF_mod HV3.out hm4 fun b o hh => by
          obtain ⟨n', c', e⟩ := hh
          exact hfv b o n' c' e)
        clear hr hr1 hrd hc4 hm4 HC3 H3 HV3 hfv H2 HV2 HB2 HVX HK3 hcb
        go_wp2_with fail
        go_loopw [7] (fun mv wr => ∃ (m : Nat), m ≤ T.length ∧ mv = .int .i64 (m : Int) ∧ Keep w4 wr) (fun mv _ => T.length - (intOf mv).toNat)
        case atStart => exact ⟨0, by omega, rfl, Mod.refl _ _⟩
        case round =>
          obtain ⟨m, hm, rfl, hKm⟩ := hrel
          have HKm := Lib.hid hKm
          clear hKm
          by_cases hmT : m < T.length
          · obtain ⟨y, hy⟩ : ∃ y, T[m]? = some y := ⟨_, List.getElem?_eq_getElem hmT⟩
            have hym := List.mem_of_getElem? hy
            obtain ⟨va2, vcap2, hve, hvx⟩ := rowF_keep HV4.out HKm.out
            rw [told_len] at hve
            injection hve with e1 e2 e3
            subst e1
            obtain ⟨vb, vo, rfl, q0⟩ := hvx m y.told (by simp [toldT, hy])
            have y0 : wr.cell? ⟨vb, vo + m * 4, none⟩ = some (.int .i64 y.told.num) := q0 0 _ rfl
            have y2 : wr.cell? ⟨vb, vo + m * 4 + 2, none⟩ = some (.int .i64 y.told.links) := q0 2 _ rfl
            have cc : wr.cell? ⟨cb, m, none⟩ = some (.int .i64 (cnt T y.num : Int)) := (HC4.out.mod HKm.out id).cell hy
            have hmi : (m : Int) < T.length := by omega
            have Hy := Lib.hid hym
            clear q0 hvx hy hym e3
            by_cases h1 : y.num = 1
            · have hc : cnt T y.num = 0 := by
                rw [h1]; exact cnt_zero fun n hn p hp => (HW.out.closed n hn p hp).1
              have t1 : y.told.num = 1 := h1
              rw [t1] at y0
              rw [hc, show ((0 : Nat) : Int) = 0 from rfl] at cc
              clear h1 hc t1
              go_wp2_with fail
              refine wp_region_qe0 (by kernel_rfl) (by kernel_rfl) ?_
              repeat (go_big_quiet_step (fail))
              refine wpQuiet_nil ?_
              intro _ hw'
              obtain ⟨nq, rfl⟩ := hw'
              go_wp2_with fail
              exact ⟨⟨m + 1, by omega, by go_num, HKm.out.drewN _⟩, by simp [intOf]; omega⟩
            · have hc := (HW.out.count y Hy.out h1).1
              have t1 : (y.told.num == 1) = false := beq_false_of_ne h1
              have t2 : (y.told.num != 1) = true := bne_iff_ne.2 h1
              have t3 : y.told.links = (cnt T y.num : Int) := by show y.links = _; omega
              rw [t3] at y2
              have t4 : ((cnt T y.num : Int) != (cnt T y.num : Int)) = false := by simp
              clear h1 hc t3
              go_wp2_with fail
              refine wp_region_qe0 (by kernel_rfl) (by kernel_rfl) ?_
              repeat (go_big_quiet_step (fail))
              refine wpQuiet_nil ?_
              intro _ hw'
              obtain ⟨nq, rfl⟩ := hw'
              go_wp2_with fail
              exact ⟨⟨m + 1, by omega, by go_num, HKm.out.drewN _⟩, by simp [intOf]; omega⟩
          · obtain rfl : m = T.length := by omega
            have H5 := Lib.hid (H4.out.kept HKm.out)
            clear hmT
            go_wp2_with fail
            refine (fixed_any wr (He.out.keep H5.out.keep)).mono ?_
            rintro e w6 ⟨rfl, hk6⟩
            have HK6 := Lib.hid (H5.out.keep.keep hk6)
            clear hk6
            go_wp2_with fail
            go_ret
            exact ⟨rfl, HK6.out⟩
end Go.Proofs.YthmpblccplphfaaGreatDoor
