/-
  What a path names; where a name can be put; where it stands.
-/
import Derived.Test.YthmpblccplphfaaGreatDoorFilAt
namespace Go.Proofs.YthmpblccplphfaaGreatDoor
open Go.RowKit
theorem wp_region_qe0 {P : Program} {id : Nat} {Q : Exit → Act → World → Prop} {a : Act} {w : World} {l : List Oper} (hm : P.follows .mixedOrders = true) (hB : Region.lexB .any l.toArray = true)
    (h : wpQuiet P l.toArray (fun w' => ∃ m, w' = w.drewN m) (fun a' => ∀ w', (∃ m, w' = w.drewN m) → Q .normal a' w') l a) : (Code.region id l.toArray true).wp P Q a w :=
  wp_region_quiet (C := fun w' => ∃ m, w' = w.drewN m) hm hB ⟨1, rfl⟩ (by simpa using h)
/-- a slice of strings, all but the last -/
theorem row_init {w : World} {a : Option Addr} {cap M : Nat} {p : List (List UInt8)} {s : List UInt8} (h : RowAt w (.slice a (M + 1) cap) (srow (p ++ [s]))) (hM : p.length = M) : RowAt w (.slice a M cap) (srow p) ∧ ∃ b o, a = some ⟨b, o, none⟩ ∧ w.cell? ⟨b, o + M, none⟩ = some (.string ⟨s.toArray⟩) := by
  obtain ⟨a', cap', hv, hx⟩ := h
  injection hv with e1 _ _
  subst e1
  refine ⟨⟨a, cap, by rw [srow_len, hM], fun j x hj => hx j x ?_⟩, ?_⟩
  · have hlt := (List.getElem?_eq_some_iff.1 hj).1
    rw [srow_len] at hlt
    simp only [srow, List.map_append] at hj ⊢
    rw [List.getElem?_append_left (by simpa using hlt)]; exact hj
  · obtain ⟨b, o, e, hc⟩ := hx M (.string ⟨s.toArray⟩) (by simp [srow, ← hM])
    exact ⟨b, o, e, hc⟩
theorem row_at {w : World} {a : Option Addr} {n cap : Nat} {xs : List Value} (h : RowAt w (.slice a n cap) xs) {j : Nat} {x : Value} (hx : xs[j]? = some x) : ∃ b o, a = some ⟨b, o, none⟩ ∧ w.cell? ⟨b, o + j, none⟩ = some x := by
  obtain ⟨a', cap', hv, hc⟩ := h
  injection hv with e1 _ _
  subst e1
  exact hc j x hx
theorem row_shape {w : World} {v : Value} {xs : List Value} (h : RowAt w v xs) : ∃ a cap, v = .slice a xs.length cap := by
  obtain ⟨a, cap, hv, _⟩ := h; exact ⟨a, cap, hv⟩
theorem own_cap {w : World} {base m n sz : Nat} {t : TypeId} {a : Option Addr} {cap : Nat} {xs : List Value} (h : w.ownsRow base t sz (.slice a n cap) m xs) : n ≤ cap := by
  rcases h.2 with ⟨hv, _⟩ | ⟨g, cp, cur, hv, _, _, hc, _⟩
  · injection hv with _ h1 h2; omega
  · injection hv with _ h1 h2; omega
theorem names_small {s : List UInt8} {l : List (List UInt8)} (h : pathOf s = some l) : l.length ≤ 8 ∧ ∀ x ∈ l, x.length ≤ 16 := by
  obtain ⟨h1, h2⟩ := path_names h
  refine ⟨h1, fun x hx => ?_⟩
  have := h2 x hx
  simp only [nameOk, Bool.and_eq_true, decide_eq_true_eq] at this
  exact this.1.1.2
def roomV (A : Int → Nat) : Except Int (Int × List UInt8) → Value
  | .ok (k, s) => .tuple #[.pointer (some ⟨A k, 0, none⟩), .string ⟨s.toArray⟩, .int .i64 0]
  | .error e => .tuple #[.pointer none, .string ⟨#[]⟩, .int .i64 e]
section
variable {w : World} {p tb : Nat} {T : Tr} {A M : Int → Nat} {role : Nat → Role} {d : Int → Nat} {off : Int → Int}
set_option maxRecDepth 100000 in
set_option maxHeartbeats 1000000 in
theorem at_any (h : TreeAt w p T tb A M role) (hw : WFo T d off) (he : Env w) (path : List UInt8) (hp : path.length < 4294967281) :
    Calls Tryz.prog 42 #[.pointer (some ⟨p, 0, none⟩), .string ⟨path.toArray⟩] w fun e w' => e = .returned (findV A (atT T path)) ∧ Keep w w' := by
  have HT := Lib.hid h
  have HW := Lib.hid hw
  have He := Lib.hid he
  have Hp := Lib.hid hp
  clear h hw he hp
  go_enter Tryz.func42, Tryz.ntmps42
  go_wp2_with fail
  refine (path_any path w He.out Hp.out).mono ?_
  rintro e w1 ⟨v, rfl, ho, hk⟩
  cases hpo : pathOf path with
  | none =>
    have Hv : RowKit.Hid (atT T path = .error 140) := Lib.hid (by rw [atT, hpo])
    have e1 : pathErr path = 130 := by rw [pathErr, hpo]; rfl
    have HK := Lib.hid hk
    rw [e1]
    clear ho hk hpo e1
    go_wp2_with fail
    go_ret2
    exact ⟨by rw [Hv.out]; rfl, HK.out⟩
  | some l =>
    have Hv : RowKit.Hid (atT T path = findT T 1 l) := Lib.hid (by rw [atT, hpo])
    have e1 : pathErr path = 0 := by rw [pathErr, hpo]; rfl
    have e2 : pathNames path = l := by rw [pathNames, hpo]; rfl
    rw [e2] at ho
    rw [e1]
    have HR := Lib.hid (row_strs ho)
    have HT1 := Lib.hid (HT.out.keep hk)
    have HK := Lib.hid hk
    have Hl := Lib.hid (names_small hpo)
    clear ho hk hpo e1 e2
    go_wp2_with fail
    refine (find_any HT1.out HW.out v l HR.out (by have := Hl.out.1; omega) (fun s hs => by have := Hl.out.2 s hs; omega)).mono ?_
    rintro e w2 ⟨rfl, hk2⟩
    have HK2 := Lib.hid (HK.out.keep hk2)
    clear hk2
    rw [← Hv.out]
    cases hx : atT T path with
    | ok k =>
      have Hx := Lib.hid hx
      clear hx
      unfold findV
      go_wp2_with fail
      go_ret2
      exact ⟨by rw [Hx.out]; rfl, HK2.out⟩
    | error e =>
      have Hx := Lib.hid hx
      clear hx
      unfold findV
      go_wp2_with fail
      go_ret2
      exact ⟨by rw [Hx.out]; rfl, HK2.out⟩
set_option maxRecDepth 100000 in
set_option maxHeartbeats 2000000 in
theorem room_any (h : TreeAt w p T tb A M role) (hw : WFo T d off) (he : Env w) (path : List UInt8) (hp : path.length < 4294967281) :
    Calls Tryz.prog 71 #[.pointer (some ⟨p, 0, none⟩), .string ⟨path.toArray⟩] w fun e w' => e = .returned (roomV A (roomT T path)) ∧ Keep w w' := by
  have HT := Lib.hid h
  have HW := Lib.hid hw
  have He := Lib.hid he
  have Hp := Lib.hid hp
  clear h hw he hp
  go_enter Tryz.func71, Tryz.ntmps71
  go_wp2_with fail
  refine (path_any path w He.out Hp.out).mono ?_
  rintro e w1 ⟨v, rfl, ho, hk⟩
  have HR := Lib.hid (row_strs ho)
  have HT1 := Lib.hid (HT.out.keep hk)
  have HK := Lib.hid hk
  obtain ⟨a, cap, hv⟩ := row_shape HR.out
  rw [srow_len] at hv
  have hcap : (pathNames path).length ≤ cap := by rw [hv] at ho; exact own_cap ho
  clear ho hk
  obtain ⟨L, hL⟩ : ∃ L, pathNames path = L := ⟨_, rfl⟩
  obtain ⟨pe, hpe⟩ : ∃ pe, pathErr path = pe := ⟨_, rfl⟩
  rw [hpe]
  clear hpe
  rcases nil_or_snoc L with rfl | ⟨q, s, rfl⟩
  · rw [hL] at hv
    subst hv
    have Hv : RowKit.Hid (roomT T path = .error 142) := Lib.hid (by unfold roomT; rw [show (pathOf path).getD [] = [] from hL]; rfl)
    clear hL
    go_wp2_with fail
    go_ret3
    exact ⟨by rw [Hv.out]; rfl, HK.out⟩
  · rw [hL] at hv HR hcap
    obtain ⟨N, hN⟩ : ∃ N, q.length = N := ⟨_, rfl⟩
    have hv2 : v = .slice a (N + 1) cap := by rw [hv]; simp [hN]
    subst hv2
    obtain ⟨hR0, b, o, rfl, c0⟩ := row_init HR.out hN
    have HR0 := Lib.hid hR0
    have hpo : pathOf path = some (q ++ [s]) := by
      cases h : pathOf path with
      | none => rw [pathNames, h] at hL; simp at hL
      | some l => rw [pathNames, h] at hL; exact congrArg some hL
    have hcp : N + 1 ≤ cap := by simp [hN] at hcap; omega
    clear hcap
    have Hl := Lib.hid (names_small hpo)
    have Hv : RowKit.Hid (roomT T path = match findT T 1 q with
        | .error e => .error e
        | .ok k => match T.get k with
          | none => .error 141
          | some up => if up.dir = false then .error 143 else if (getN s up.names).isSome = true then .error 142 else if 60 ≤ up.names.length then .error 145 else .ok (k, s)) := Lib.hid (by
      unfold roomT
      rw [hpo]
      simp only [Option.getD_some, List.dropLast_concat, List.getLastD_concat]
      rw [if_neg (by simp)]
      cases findT T 1 q with
      | error e => rfl
      | ok k => cases T.get k <;> rfl)
    have Hq : RowKit.Hid (q.length = N) := Lib.hid hN
    have hN8 : N ≤ 7 := by have := Hl.out.1; simp at this; omega
    have Hfo : RowKit.Hid (∀ k, findT T 1 q = .ok k → ∃ n, T.get k = some n) := Lib.hid (fun k hk => by
      obtain ⟨r, hr, h1, _⟩ := HW.out.root
      obtain ⟨n, hn, hk⟩ := (find_ok HW.out q 1 k ⟨r, hr, h1⟩ hk).1
      exact ⟨n, (get_iff HW.out.sorted).2 ⟨hn, hk⟩⟩)
    clear hL hv hR0 hpo hN HR
    go_wp2_with fail
    refine (find_any HT1.out HW.out _ q HR0.out (by have := Hq.out; omega) (fun x hx => by have := Hl.out.2 x (by simp [hx]); omega)).mono ?_
    rintro e w2 ⟨rfl, hk2⟩
    have c1 : w2.cell? ⟨b, o + N, none⟩ = some (.string ⟨s.toArray⟩) := by rw [hk2.cell (p := ⟨b, o + N, none⟩) (lt_of_cell c0) id]; exact c0
    have HK2 := Lib.hid (HK.out.keep hk2)
    have HT2 := Lib.hid (HT1.out.keep hk2)
    clear hk2 c0
    cases hf : findT T 1 q with
    | error e =>
      rw [hf] at Hv
      have hne : e = 141 ∨ e = 143 := find_err _ _ _ hf
      have hq : (e == 0) = false := by rw [beq_eq_false_iff_ne]; omega
      clear hf hne c1
      unfold findV
      go_wp2_with fail
      go_ret3
      exact ⟨by rw [Hv.out]; rfl, HK2.out⟩
    | ok k =>
      obtain ⟨up, hup⟩ := Hfo.out k hf
      rw [hf] at Hv
      have d1 : w2.cell? ⟨A k, 1, none⟩ = some (.bool up.dir) := HT2.out.cell HW.out.sorted hup 1
      have d4 : w2.cell? ⟨A k, 4, none⟩ = some (.map (if up.dir = true then some (M k) else none)) := HT2.out.cell HW.out.sorted hup 4
      obtain ⟨hm, hmk⟩ := (get_iff HW.out.sorted).1 hup
      unfold findV
      cases hd : up.dir with
      | false =>
        rw [hd] at d1
        have Hv2 : RowKit.Hid (roomT T path = .error 143) := Lib.hid (by rw [Hv.out]; simp only [hup]; rw [if_pos hd])
        clear hd d4 hup hf hm hmk c1
        go_wp2_with fail
        go_ret3
        exact ⟨by rw [Hv2.out]; rfl, HK2.out⟩
      | true =>
        rw [hd] at d1 d4
        rw [if_pos rfl] at d4
        have r1 := HT2.out.lookN HW.out.sorted hup hd s (by have := Hl.out.2 s (by simp); omega)
        have hmap := HT2.out.names up hm hd
        rw [hmk] at hmap
        have r2 := fun ty => MapN.len hmap Tryz.underlying68 ty
        have h60 := (HW.out.names up hm).1
        cases hg : getN s up.names with
        | some j =>
          rw [hg] at r1
          have Hv2 : RowKit.Hid (roomT T path = .error 142) := Lib.hid (by rw [Hv.out]; simp [hup, hd, hg])
          clear hd hg hup hf hm hmk hmap r2 h60
          go_wp2_with fail
          go_ret3
          exact ⟨by rw [Hv2.out]; rfl, HK2.out⟩
        | none =>
          rw [hg] at r1
          by_cases hb : 60 ≤ up.names.length
          · have Hv2 : RowKit.Hid (roomT T path = .error 145) := Lib.hid (by rw [Hv.out]; simp [hup, hd, hg, hb])
            have hb2 : (60 : Int) ≤ up.names.length := by omega
            clear hd hg hup hf hm hmk hmap hb
            go_wp2_with fail
            go_ret3
            exact ⟨by rw [Hv2.out]; rfl, HK2.out⟩
          · have Hv2 : RowKit.Hid (roomT T path = .ok (k, s)) := Lib.hid (by rw [Hv.out]; simp [hup, hd, hg, hb])
            have hb2 : ¬ (60 : Int) ≤ up.names.length := by omega
            clear hd hg hup hf hm hmk hmap hb
            go_wp2_with fail
            go_ret3
            exact ⟨by rw [Hv2.out]; rfl, HK2.out⟩
end
end Go.Proofs.YthmpblccplphfaaGreatDoor
