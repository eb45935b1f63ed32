/-
  policy.Keeps.
-/
import Derived.Test.YthopldpaoeabnaaDoorPolRev
import Derived.Test.YthopldpaoeabnaaDoorPolClass
namespace Go.Proofs.YthopldpaoeabnaaDoor
open Go.RowKit
/-- Which names are kept, the newest first: h tells how many of each class are kept already. -/
def kRun (K : Nat → Int) : List (List UInt8) → (Nat → Int) → List (List UInt8)
  | [], _ => []
  | s :: r, h => match cls s with
    | none => s :: kRun K r h
    | some (c, _) => if K c ≤ h c then kRun K r h else s :: kRun K r (fun i => if i = c then h c + 1 else h i)
def keeps (K : Nat → Int) (names : List (List UInt8)) : List (List UInt8) := (kRun K names.reverse (fun _ => 0)).reverse
theorem cls_lt {s : List UInt8} {c : Nat} {t : Int} (h : cls s = some (c, t)) : c = 0 ∨ c = 1 ∨ c = 2 := by
  unfold cls at h
  split at h
  · simp at h; omega
  · split at h
    · simp at h; omega
    · split at h
      · simp at h; omega
      · cases h
theorem kRun_len (K : Nat → Int) (l : List (List UInt8)) : ∀ h, (kRun K l h).length ≤ l.length := by
  induction l with
  | nil => intro h; simp [kRun]
  | cons s r ih =>
    intro h
    unfold kRun
    split
    · have := ih h; simp; omega
    · split
      · have := ih h; simp; omega
      · rename_i c _ _ _
        have := ih (fun i => if i = c then h c + 1 else h i); simp; omega
theorem own_mod {w w' : World} {base n : Nat} {t : TypeId} {v : Value} {xs : List Value} {S : Nat → Prop} (h : w.ownsRow base t 1 v n xs) (k : Mod S w w') (hS : ∀ b, base ≤ b → ¬ S b) : w'.ownsRow base t 1 v n xs := by
  obtain ⟨h1, h2⟩ := h
  refine ⟨h1, ?_⟩
  rcases h2 with h2 | ⟨g, cap, cur, a, b, c, d⟩
  · exact .inl h2
  · exact .inr ⟨g, cap, cur, a, b, k.obj c (hS g b), d⟩
theorem upd_bound {h : Nat → Int} {k : Nat} (hh : ∀ j, 0 ≤ h j ∧ h j ≤ (k : Int)) (c : Nat) : ∀ j, 0 ≤ (if j = c then h c + 1 else h j) ∧ (if j = c then h c + 1 else h j) ≤ ((k + 1 : Nat) : Int) := by
  intro j
  have h1 := hh j
  have h2 := hh c
  split <;> omega
def have3 (h : Nat → Int) : Array Value := #[.int .i64 (h 0), .int .i64 (h 1), .int .i64 (h 2)]
set_option maxRecDepth 100000 in
set_option maxHeartbeats 1000000 in
theorem keeps_any (E K : Nat → Int) (names : List (List UInt8)) (va : Value) (w : World) (he : Env w) (hK : ∀ i, i < 3 → K i ≤ 9223372036854775807) (ha : RowAt w va (srow names)) (hn : names.length ≤ 1048576) (hl : ∀ x ∈ names, x.length ≤ 140737488355328) :
    Calls Tryd.prog 22 #[polV E K, va] w fun e w' => ∃ v, e = .returned v ∧ RowAt w' v (srow (keeps K names)) ∧ Keep w w' := by
  obtain ⟨a, ca, rfl, hA⟩ := ha
  rw [srow_len]
  obtain ⟨N, hN⟩ : ∃ N, names.length = N := ⟨_, rfl⟩
  rw [hN] at hn ⊢
  have HN := Lib.hid hN
  have He := Lib.hid he
  have HKb := Lib.hid hK
  have HA := Lib.hid hA
  have Hl := Lib.hid hl
  clear he hK hA hl hN
  go_enter Tryd.func22, Tryd.ntmps22
  unfold polV
  go_wp2_with fail
  go_loopw [5, 14] (fun v i wr => ∃ (k : Nat) (h : Nat → Int) (acc : List (List UInt8)), k ≤ N ∧ i = .int .i64 (k : Int) ∧ World.blk wr w.heap.size (boxV E K) 24 ∧ World.blk wr (w.heap.size + 1) (have3 h) 22 ∧ Keep w wr ∧ OwnStrs wr (w.heap.size + 2) v acc ∧ acc.length ≤ k ∧ (∀ j, 0 ≤ h j ∧ h j ≤ k) ∧ acc ++ kRun K (names.reverse.drop k) h = kRun K names.reverse (fun _ => 0)) (fun _ i _ => N - (intOf i).toNat)
  case atStart => exact ⟨0, fun _ => 0, [], by omega, rfl, blk_alloc (blk_new _ _ _) _, blk_new_atD (by simp) _ _, ((Mod.refl _ _).alloc _).alloc _, ⟨rfl, .inl ⟨rfl, rfl⟩⟩, by simp, fun j => by simp, rfl⟩
  case round =>
    obtain ⟨k, h, acc, hk, rfl, hP, hH, hKK, hV, hacc, hh, hrun⟩ := hrel
    have HP := Lib.hid hP
    have HH := Lib.hid hH
    have HK := Lib.hid hKK
    have HV := Lib.hid hV
    have Hacc := Lib.hid hacc
    have Hh := Lib.hid hh
    have Hrun := Lib.hid hrun
    have Hsz := Lib.hid (blk_lt hH)
    clear hP hH hKK hV hacc hh hrun
    by_cases hlt : k < N
    · obtain ⟨j, hj⟩ : ∃ j : Nat, N = k + 1 + j := ⟨N - 1 - k, by omega⟩
      have Hs : RowKit.Hid (∃ s, names[j]? = some s ∧ names.reverse.drop k = s :: names.reverse.drop (k + 1)) := Lib.hid (by
        have hlen := HN.out
        have hjl : j < names.length := by omega
        have hkr : k < names.reverse.length := by rw [List.length_reverse]; omega
        refine ⟨names[j], List.getElem?_eq_getElem hjl, ?_⟩
        rw [List.drop_eq_getElem_cons hkr]
        congr 1
        rw [List.getElem_reverse]
        congr 1
        omega)
      obtain ⟨s, hs, hdrop⟩ := Hs.out
      have Hdrop := Lib.hid hdrop
      have Hsl := Lib.hid (Hl.out s (List.mem_of_getElem? hs))
      obtain ⟨b, o, rfl, hc⟩ := HA.out j (.string ⟨s.toArray⟩) (by simp [srow, hs])
      have hblt := lt_of_cell hc
      have hc2 : wr.cell? ⟨b, o + j, none⟩ = some (.string ⟨s.toArray⟩) := by rw [HK.out.cell (p := ⟨b, o + j, none⟩) hblt id]; exact hc
      have hj2 : (N : Int) - 1 - (k : Int) = (j : Int) := by omega
      have Hj := Lib.hid hj
      have hjN : j < N := by omega
      clear Hs hs hdrop hc hblt hj
      go_wp2_with fail
      refine (class_any s _ (He.out.keep HK.out) Hsl.out).mono ?_
      rintro e w2 ⟨rfl, hk2⟩
      have HP2 := Lib.hid (blk_mod hk2 HP.out id)
      have HH2 := Lib.hid (blk_mod hk2 HH.out id)
      have HK2 := Lib.hid (HK.out.keep hk2)
      have HV2 := Lib.hid (own_keep HV.out hk2)
      have Hsz2 := Lib.hid (Nat.lt_of_lt_of_le Hsz.out hk2.size)
      clear hk2 HP HH HK HV Hsz hc2 hj2 hjN
      rcases hcl : cls s with _ | ⟨c, t⟩
      · rw [show clsV none = .tuple #[.int .i64 0, .int .i64 0, .bool false] from rfl]
        have HC := Lib.hid hcl
        clear hcl
        go_upto_region 8 with (fail)
        go_quiet (fail)
        have HP2 := Lib.hid (blk_drewN HP2.out nq)
        have HH2 := Lib.hid (blk_drewN HH2.out nq)
        have HK2 := Lib.hid (HK2.out.drewN nq)
        have HV2 : RowKit.Hid ((w2.drewN nq).ownsRow (w.heap.size + 2) 9 1 u5 acc.length (scells acc).toList) := HV2
        have Hsz2 : RowKit.Hid (w.heap.size + 1 < (w2.drewN nq).heap.size) := Hsz2
        generalize w2.drewN nq = w2 at *
        obtain ⟨v2, w4, hr, ho, hk2, hm2⟩ := append_own (P := Tryd.prog) Tryd.underlying40 info_str rfl (w.heap.size + 2) u5 _ _ w2 w HV2.out [.string ⟨s.toArray⟩] (by intro u hu; simp at hu; subst hu; rfl) (by have := Hacc.out; simp [maxLen]; omega) (by have := Hacc.out; simp; omega) (by have := Hsz2.out; omega) HK2.out (by omega)
        have Hr := Lib.hid hr
        have Ho := Lib.hid ho
        have Hk2 := Lib.hid hk2
        have HP4 := Lib.hid (blk_mod hm2 HP2.out (by omega))
        have HH4 := Lib.hid (blk_mod hm2 HH2.out (by omega))
        clear hr ho hk2 hm2
        go_wp2_with ((at_builtin; refine wpList_append_run Hr.out rfl rfl rfl rfl ?_))
        refine ⟨⟨k + 1, h, acc ++ [s], by omega, by go_num, HP4.out, HH4.out, Hk2.out, add_str_cells (ys := [s]) Ho.out, by have := Hacc.out; simp; omega, fun j => ⟨(Hh.out j).1, by have := (Hh.out j).2; omega⟩, ?_⟩, by simp [intOf]; omega⟩
        have h1 := Hrun.out
        rw [Hdrop.out, kRun, HC.out] at h1
        rw [List.append_assoc]; exact h1
      rcases cls_lt hcl with rfl | rfl | rfl
      · rw [show clsV (some (0, t)) = .tuple #[.int .i64 0, .int .i64 t, .bool true] from rfl]
        have HC := Lib.hid hcl
        clear hcl
        have hx1 := (box_cells HP2.out).2.2.2.1
        have hx2 : w2.cell? ⟨w.heap.size + 1, 0, none⟩ = some (.int .i64 (h 0)) := blk_cell HH2.out 0
        have hx3 := (Hh.out 0).1
        have hx4 := (Hh.out 0).2
        by_cases hge : h 0 ≥ K 0
        · have Hge := Lib.hid hge
          clear hx3 hx4
          go_upto_region 8 with (fail)
          go_quiet (fail)
          have HP2 := Lib.hid (blk_drewN HP2.out nq)
          have HH2 := Lib.hid (blk_drewN HH2.out nq)
          have HK2 := Lib.hid (HK2.out.drewN nq)
          have HV2 : RowKit.Hid ((w2.drewN nq).ownsRow (w.heap.size + 2) 9 1 u5 acc.length (scells acc).toList) := HV2
          have Hsz2 : RowKit.Hid (w.heap.size + 1 < (w2.drewN nq).heap.size) := Hsz2
          generalize w2.drewN nq = w2 at *
          clear hx1 hx2
          go_wp2_with fail
          refine ⟨⟨k + 1, h, acc, by omega, by go_num, HP2.out, HH2.out, HK2.out, HV2.out, by have := Hacc.out; omega, fun j => ⟨(Hh.out j).1, by have := (Hh.out j).2; omega⟩, ?_⟩, by simp [intOf]; omega⟩
          have h1 := Hrun.out
          rw [Hdrop.out, kRun, HC.out] at h1
          simp only at h1
          rw [if_pos Hge.out] at h1; exact h1
        · have Hge := Lib.hid hge
          go_upto_region 8 with (fail)
          go_quiet (fail)
          have HP2 := Lib.hid (blk_drewN HP2.out nq)
          have HH2 := Lib.hid (blk_drewN HH2.out nq)
          have HK2 := Lib.hid (HK2.out.drewN nq)
          have HV2 : RowKit.Hid ((w2.drewN nq).ownsRow (w.heap.size + 2) 9 1 u5 acc.length (scells acc).toList) := HV2
          have Hsz2 : RowKit.Hid (w.heap.size + 1 < (w2.drewN nq).heap.size) := Hsz2
          generalize w2.drewN nq = w2 at *
          have hB2 : World.blk w2 (w.heap.size + 1) #[.int .i64 (h 0), .int .i64 (h 1), .int .i64 (h 2)] 22 := HH2.out
          have hb2 := blk_lt hB2
          rw [← putB_self hB2]
          clear hx2 hx1 hB2
          go_upto_region 11 with (fail)
          clear hge hx3 hx4
          have HP3 := Lib.hid (putB_blk_other (c := #[.int .i64 (h 0 + 1), .int .i64 (h 1), .int .i64 (h 2)]) (t := 22) HP2.out (Nat.ne_of_lt (Nat.lt_succ_self w.heap.size)))
          have HH3 : RowKit.Hid (World.blk (w2.putB (w.heap.size + 1) #[.int .i64 (h 0 + 1), .int .i64 (h 1), .int .i64 (h 2)] 22) (w.heap.size + 1) (have3 (fun i => if i = 0 then h 0 + 1 else h i)) 22) := Lib.hid (putB_blk hb2)
          have HK3 := Lib.hid (HK2.out.putB (b := w.heap.size + 1) (.inr (by omega)) #[.int .i64 (h 0 + 1), .int .i64 (h 1), .int .i64 (h 2)] 22)
          have HV3 : RowKit.Hid ((w2.putB (w.heap.size + 1) #[.int .i64 (h 0 + 1), .int .i64 (h 1), .int .i64 (h 2)] 22).ownsRow (w.heap.size + 2) 9 1 u5 acc.length (scells acc).toList) := Lib.hid (own_mod HV2.out ((Mod.refl (· = w.heap.size + 1) w2).putB (.inl rfl) _ _) (fun b hb e => by omega))
          have Hsz3 : RowKit.Hid (w.heap.size + 1 < (w2.putB (w.heap.size + 1) #[.int .i64 (h 0 + 1), .int .i64 (h 1), .int .i64 (h 2)] 22).heap.size) := Lib.hid (by rw [putB_size]; exact hb2)
          clear hb2
          generalize w2.putB (w.heap.size + 1) #[.int .i64 (h 0 + 1), .int .i64 (h 1), .int .i64 (h 2)] 22 = w3 at *
          obtain ⟨v2, w4, hr, ho, hk2, hm2⟩ := append_own (P := Tryd.prog) Tryd.underlying40 info_str rfl (w.heap.size + 2) u5 _ _ w3 w HV3.out [.string ⟨s.toArray⟩] (by intro u hu; simp at hu; subst hu; rfl) (by have := Hacc.out; simp [maxLen]; omega) (by have := Hacc.out; simp; omega) (by have := Hsz3.out; omega) HK3.out (by omega)
          have Hr := Lib.hid hr
          have Ho := Lib.hid ho
          have Hk2 := Lib.hid hk2
          have HP4 := Lib.hid (blk_mod hm2 HP3.out (by omega))
          have HH4 := Lib.hid (blk_mod hm2 HH3.out (by omega))
          clear hr ho hk2 hm2
          go_wp2_with ((at_builtin; refine wpList_append_run Hr.out rfl rfl rfl rfl ?_))
          refine ⟨⟨k + 1, (fun i => if i = 0 then h 0 + 1 else h i), acc ++ [s], by omega, by go_num, HP4.out, HH4.out, Hk2.out, add_str_cells (ys := [s]) Ho.out, by have := Hacc.out; simp; omega, upd_bound Hh.out 0, ?_⟩, by simp [intOf]; omega⟩
          have h1 := Hrun.out
          rw [Hdrop.out, kRun, HC.out] at h1
          simp only at h1
          rw [if_neg (by have := Hge.out; omega)] at h1
          rw [List.append_assoc]; exact h1
      · rw [show clsV (some (1, t)) = .tuple #[.int .i64 1, .int .i64 t, .bool true] from rfl]
        have HC := Lib.hid hcl
        clear hcl
        have hx1 := (box_cells HP2.out).2.2.2.2.1
        have hx2 : w2.cell? ⟨w.heap.size + 1, 1, none⟩ = some (.int .i64 (h 1)) := blk_cell HH2.out 1
        have hx3 := (Hh.out 1).1
        have hx4 := (Hh.out 1).2
        by_cases hge : h 1 ≥ K 1
        · have Hge := Lib.hid hge
          clear hx3 hx4
          go_upto_region 8 with (fail)
          go_quiet (fail)
          have HP2 := Lib.hid (blk_drewN HP2.out nq)
          have HH2 := Lib.hid (blk_drewN HH2.out nq)
          have HK2 := Lib.hid (HK2.out.drewN nq)
          have HV2 : RowKit.Hid ((w2.drewN nq).ownsRow (w.heap.size + 2) 9 1 u5 acc.length (scells acc).toList) := HV2
          have Hsz2 : RowKit.Hid (w.heap.size + 1 < (w2.drewN nq).heap.size) := Hsz2
          generalize w2.drewN nq = w2 at *
          clear hx1 hx2
          go_wp2_with fail
          refine ⟨⟨k + 1, h, acc, by omega, by go_num, HP2.out, HH2.out, HK2.out, HV2.out, by have := Hacc.out; omega, fun j => ⟨(Hh.out j).1, by have := (Hh.out j).2; omega⟩, ?_⟩, by simp [intOf]; omega⟩
          have h1 := Hrun.out
          rw [Hdrop.out, kRun, HC.out] at h1
          simp only at h1
          rw [if_pos Hge.out] at h1; exact h1
        · have Hge := Lib.hid hge
          go_upto_region 8 with (fail)
          go_quiet (fail)
          have HP2 := Lib.hid (blk_drewN HP2.out nq)
          have HH2 := Lib.hid (blk_drewN HH2.out nq)
          have HK2 := Lib.hid (HK2.out.drewN nq)
          have HV2 : RowKit.Hid ((w2.drewN nq).ownsRow (w.heap.size + 2) 9 1 u5 acc.length (scells acc).toList) := HV2
          have Hsz2 : RowKit.Hid (w.heap.size + 1 < (w2.drewN nq).heap.size) := Hsz2
          generalize w2.drewN nq = w2 at *
          have hB2 : World.blk w2 (w.heap.size + 1) #[.int .i64 (h 0), .int .i64 (h 1), .int .i64 (h 2)] 22 := HH2.out
          have hb2 := blk_lt hB2
          rw [← putB_self hB2]
          clear hx2 hx1 hB2
          go_upto_region 11 with (fail)
          clear hge hx3 hx4
          have HP3 := Lib.hid (putB_blk_other (c := #[.int .i64 (h 0), .int .i64 (h 1 + 1), .int .i64 (h 2)]) (t := 22) HP2.out (Nat.ne_of_lt (Nat.lt_succ_self w.heap.size)))
          have HH3 : RowKit.Hid (World.blk (w2.putB (w.heap.size + 1) #[.int .i64 (h 0), .int .i64 (h 1 + 1), .int .i64 (h 2)] 22) (w.heap.size + 1) (have3 (fun i => if i = 1 then h 1 + 1 else h i)) 22) := Lib.hid (putB_blk hb2)
          have HK3 := Lib.hid (HK2.out.putB (b := w.heap.size + 1) (.inr (by omega)) #[.int .i64 (h 0), .int .i64 (h 1 + 1), .int .i64 (h 2)] 22)
          have HV3 : RowKit.Hid ((w2.putB (w.heap.size + 1) #[.int .i64 (h 0), .int .i64 (h 1 + 1), .int .i64 (h 2)] 22).ownsRow (w.heap.size + 2) 9 1 u5 acc.length (scells acc).toList) := Lib.hid (own_mod HV2.out ((Mod.refl (· = w.heap.size + 1) w2).putB (.inl rfl) _ _) (fun b hb e => by omega))
          have Hsz3 : RowKit.Hid (w.heap.size + 1 < (w2.putB (w.heap.size + 1) #[.int .i64 (h 0), .int .i64 (h 1 + 1), .int .i64 (h 2)] 22).heap.size) := Lib.hid (by rw [putB_size]; exact hb2)
          clear hb2
          generalize w2.putB (w.heap.size + 1) #[.int .i64 (h 0), .int .i64 (h 1 + 1), .int .i64 (h 2)] 22 = w3 at *
          obtain ⟨v2, w4, hr, ho, hk2, hm2⟩ := append_own (P := Tryd.prog) Tryd.underlying40 info_str rfl (w.heap.size + 2) u5 _ _ w3 w HV3.out [.string ⟨s.toArray⟩] (by intro u hu; simp at hu; subst hu; rfl) (by have := Hacc.out; simp [maxLen]; omega) (by have := Hacc.out; simp; omega) (by have := Hsz3.out; omega) HK3.out (by omega)
          have Hr := Lib.hid hr
          have Ho := Lib.hid ho
          have Hk2 := Lib.hid hk2
          have HP4 := Lib.hid (blk_mod hm2 HP3.out (by omega))
          have HH4 := Lib.hid (blk_mod hm2 HH3.out (by omega))
          clear hr ho hk2 hm2
          go_wp2_with ((at_builtin; refine wpList_append_run Hr.out rfl rfl rfl rfl ?_))
          refine ⟨⟨k + 1, (fun i => if i = 1 then h 1 + 1 else h i), acc ++ [s], by omega, by go_num, HP4.out, HH4.out, Hk2.out, add_str_cells (ys := [s]) Ho.out, by have := Hacc.out; simp; omega, upd_bound Hh.out 1, ?_⟩, by simp [intOf]; omega⟩
          have h1 := Hrun.out
          rw [Hdrop.out, kRun, HC.out] at h1
          simp only at h1
          rw [if_neg (by have := Hge.out; omega)] at h1
          rw [List.append_assoc]; exact h1
      · rw [show clsV (some (2, t)) = .tuple #[.int .i64 2, .int .i64 t, .bool true] from rfl]
        have HC := Lib.hid hcl
        clear hcl
        have hx1 := (box_cells HP2.out).2.2.2.2.2
        have hx2 : w2.cell? ⟨w.heap.size + 1, 2, none⟩ = some (.int .i64 (h 2)) := blk_cell HH2.out 2
        have hx3 := (Hh.out 2).1
        have hx4 := (Hh.out 2).2
        by_cases hge : h 2 ≥ K 2
        · have Hge := Lib.hid hge
          clear hx3 hx4
          go_upto_region 8 with (fail)
          go_quiet (fail)
          have HP2 := Lib.hid (blk_drewN HP2.out nq)
          have HH2 := Lib.hid (blk_drewN HH2.out nq)
          have HK2 := Lib.hid (HK2.out.drewN nq)
          have HV2 : RowKit.Hid ((w2.drewN nq).ownsRow (w.heap.size + 2) 9 1 u5 acc.length (scells acc).toList) := HV2
          have Hsz2 : RowKit.Hid (w.heap.size + 1 < (w2.drewN nq).heap.size) := Hsz2
          generalize w2.drewN nq = w2 at *
          clear hx1 hx2
          go_wp2_with fail
          refine ⟨⟨k + 1, h, acc, by omega, by go_num, HP2.out, HH2.out, HK2.out, HV2.out, by have := Hacc.out; omega, fun j => ⟨(Hh.out j).1, by have := (Hh.out j).2; omega⟩, ?_⟩, by simp [intOf]; omega⟩
          have h1 := Hrun.out
          rw [Hdrop.out, kRun, HC.out] at h1
          simp only at h1
          rw [if_pos Hge.out] at h1; exact h1
        · have Hge := Lib.hid hge
          go_upto_region 8 with (fail)
          go_quiet (fail)
          have HP2 := Lib.hid (blk_drewN HP2.out nq)
          have HH2 := Lib.hid (blk_drewN HH2.out nq)
          have HK2 := Lib.hid (HK2.out.drewN nq)
          have HV2 : RowKit.Hid ((w2.drewN nq).ownsRow (w.heap.size + 2) 9 1 u5 acc.length (scells acc).toList) := HV2
          have Hsz2 : RowKit.Hid (w.heap.size + 1 < (w2.drewN nq).heap.size) := Hsz2
          generalize w2.drewN nq = w2 at *
          have hB2 : World.blk w2 (w.heap.size + 1) #[.int .i64 (h 0), .int .i64 (h 1), .int .i64 (h 2)] 22 := HH2.out
          have hb2 := blk_lt hB2
          rw [← putB_self hB2]
          clear hx2 hx1 hB2
          go_upto_region 11 with (fail)
          clear hge hx3 hx4
          have HP3 := Lib.hid (putB_blk_other (c := #[.int .i64 (h 0), .int .i64 (h 1), .int .i64 (h 2 + 1)]) (t := 22) HP2.out (Nat.ne_of_lt (Nat.lt_succ_self w.heap.size)))
          have HH3 : RowKit.Hid (World.blk (w2.putB (w.heap.size + 1) #[.int .i64 (h 0), .int .i64 (h 1), .int .i64 (h 2 + 1)] 22) (w.heap.size + 1) (have3 (fun i => if i = 2 then h 2 + 1 else h i)) 22) := Lib.hid (putB_blk hb2)
          have HK3 := Lib.hid (HK2.out.putB (b := w.heap.size + 1) (.inr (by omega)) #[.int .i64 (h 0), .int .i64 (h 1), .int .i64 (h 2 + 1)] 22)
          have HV3 : RowKit.Hid ((w2.putB (w.heap.size + 1) #[.int .i64 (h 0), .int .i64 (h 1), .int .i64 (h 2 + 1)] 22).ownsRow (w.heap.size + 2) 9 1 u5 acc.length (scells acc).toList) := Lib.hid (own_mod HV2.out ((Mod.refl (· = w.heap.size + 1) w2).putB (.inl rfl) _ _) (fun b hb e => by omega))
          have Hsz3 : RowKit.Hid (w.heap.size + 1 < (w2.putB (w.heap.size + 1) #[.int .i64 (h 0), .int .i64 (h 1), .int .i64 (h 2 + 1)] 22).heap.size) := Lib.hid (by rw [putB_size]; exact hb2)
          clear hb2
          generalize w2.putB (w.heap.size + 1) #[.int .i64 (h 0), .int .i64 (h 1), .int .i64 (h 2 + 1)] 22 = w3 at *
          obtain ⟨v2, w4, hr, ho, hk2, hm2⟩ := append_own (P := Tryd.prog) Tryd.underlying40 info_str rfl (w.heap.size + 2) u5 _ _ w3 w HV3.out [.string ⟨s.toArray⟩] (by intro u hu; simp at hu; subst hu; rfl) (by have := Hacc.out; simp [maxLen]; omega) (by have := Hacc.out; simp; omega) (by have := Hsz3.out; omega) HK3.out (by omega)
          have Hr := Lib.hid hr
          have Ho := Lib.hid ho
          have Hk2 := Lib.hid hk2
          have HP4 := Lib.hid (blk_mod hm2 HP3.out (by omega))
          have HH4 := Lib.hid (blk_mod hm2 HH3.out (by omega))
          clear hr ho hk2 hm2
          go_wp2_with ((at_builtin; refine wpList_append_run Hr.out rfl rfl rfl rfl ?_))
          refine ⟨⟨k + 1, (fun i => if i = 2 then h 2 + 1 else h i), acc ++ [s], by omega, by go_num, HP4.out, HH4.out, Hk2.out, add_str_cells (ys := [s]) Ho.out, by have := Hacc.out; simp; omega, upd_bound Hh.out 2, ?_⟩, by simp [intOf]; omega⟩
          have h1 := Hrun.out
          rw [Hdrop.out, kRun, HC.out] at h1
          simp only at h1
          rw [if_neg (by have := Hge.out; omega)] at h1
          rw [List.append_assoc]; exact h1
    · have hkN : k = N := by omega
      have Hfin : RowKit.Hid (keeps K names = acc.reverse) := Lib.hid (by
        have h1 := Hrun.out
        rw [List.drop_of_length_le (by rw [List.length_reverse, HN.out]; omega), kRun, List.append_nil] at h1
        rw [keeps, ← h1])
      clear hkN
      go_wp2_with fail
      refine (rev_any acc (w.heap.size + 2) u5 wr HV.out (by have := Hacc.out; omega)).mono ?_
      rintro e w1 ⟨rfl, hR, hm⟩
      have HR := Lib.hid hR
      have HKf := Lib.hid (HK.out.trans hm (fun i hi hb => by omega))
      clear hR hm
      go_wp2_with fail
      go_ret
      exact ⟨_, rfl, by rw [Hfin.out]; exact HR.out, HKf.out⟩
end Go.Proofs.YthopldpaoeabnaaDoor
