/-
  Trees of files: commands keep what holds of every tree. No program here.
-/
import Derived.Test.YthmpblccplphfaaGreatDoorFilW
namespace Go.Proofs.YthmpblccplphfaaGreatDoor
open Go.RowKit
section
variable {T : Tr} {d : Int → Nat} {off : Int → Int}
theorem get_named {k j : Int} {f : Nm → Nm} : (T.named k f).get j = if j = k then (T.get j).map (fun n => { n with names := f n.names }) else T.get j :=
  get_upd (f := fun n => { n with names := f n.names }) fun _ => rfl
theorem nil_or_snoc {α : Type} (l : List α) : l = [] ∨ ∃ p s, l = p ++ [s] := by
  rcases List.eq_nil_or_concat l with h | ⟨p, s, h⟩
  · exact .inl h
  · exact .inr ⟨p, s, by rw [h, List.concat_eq_append]⟩
theorem snoc_of {α : Type} (z : α) {l : List α} (h : l ≠ []) : l = l.dropLast ++ [l.getLastD z] := by
  rcases nil_or_snoc l with h1 | ⟨p, s, rfl⟩
  · exact absurd h1 h
  · simp
theorem path_names {s : List UInt8} {l : List (List UInt8)} (h : pathOf s = some l) : l.length ≤ 8 ∧ ∀ x ∈ l, nameOk x = true := by
  obtain ⟨r, _, ⟨_, rfl⟩ | ⟨_, _, h1, h2⟩⟩ := path_shape h
  · simp
  · exact ⟨h1, List.all_eq_true.1 h2⟩
theorem path_only {s : List UInt8} (h : pathOf s = some []) : s = [47] := by
  obtain ⟨r, rfl, ⟨rfl, _⟩ | ⟨_, h1, _⟩⟩ := path_shape h
  · rfl
  · exact absurd h1.symm (spl_ne 47 r)
theorem inter_append (l q : List (List UInt8)) (hl : l ≠ []) (hq : q ≠ []) : [(47 : UInt8)].intercalate (l ++ q) = [(47 : UInt8)].intercalate l ++ 47 :: [(47 : UInt8)].intercalate q := by
  induction l with
  | nil => exact absurd rfl hl
  | cons x l ih =>
    cases l with
    | nil =>
      cases q with
      | nil => exact absurd rfl hq
      | cons y q => simp [List.intercalate]
    | cons y l =>
      have e : ∀ m : List (List UInt8), [(47 : UInt8)].intercalate (x :: y :: m) = x ++ 47 :: [(47 : UInt8)].intercalate (y :: m) := fun m => by simp [List.intercalate]
      rw [List.cons_append, List.cons_append, e, e, ← List.cons_append, ih (by simp)]
      simp
theorem prefix_path {a b : List UInt8} {l q : List (List UInt8)} (ha : pathOf a = some l) (hb : pathOf b = some (l ++ q)) (hl : l ≠ []) (hq : q ≠ []) : Lib.hasPrefix b (a ++ [47]) = true := by
  obtain ⟨r, rfl, ⟨_, e⟩ | ⟨_, e1, _⟩⟩ := path_shape ha
  · exact absurd e hl
  · obtain ⟨r2, rfl, ⟨_, e⟩ | ⟨_, e2, _⟩⟩ := path_shape hb
    · simp at e; exact absurd e.1 hl
    · have j1 := spl_join 47 r
      have j2 := spl_join 47 r2
      rw [← e1] at j1
      rw [← e2, inter_append l q hl hq, j1] at j2
      unfold Lib.hasPrefix
      rw [List.isPrefixOf_iff_prefix]
      exact ⟨[(47 : UInt8)].intercalate q, by rw [← j2]; simp⟩
theorem prefix_names {a b : List UInt8} {l m : List (List UInt8)} (ha : pathOf a = some l) (hb : pathOf b = some m) (h : Lib.hasPrefix b (a ++ [47]) = true) (hl : l ≠ []) : ∃ q, q ≠ [] ∧ m = l ++ q := by
  unfold Lib.hasPrefix at h
  rw [List.isPrefixOf_iff_prefix] at h
  obtain ⟨t, ht⟩ := h
  obtain ⟨r, rfl, ⟨_, e⟩ | ⟨_, e1, _, hn1⟩⟩ := path_shape ha
  · exact absurd e hl
  · obtain ⟨r2, rfl, ⟨e, _⟩ | ⟨hr2, e2, _, hn2⟩⟩ := path_shape hb
    · subst e
      have := congrArg List.length ht
      simp at this
    · have e3 : r2 = r ++ 47 :: t := by simpa using ht.symm
      refine ⟨spl 47 t, spl_ne 47 t, ?_⟩
      rw [e2, e3]
      have j1 := spl_join 47 r
      rw [← e1] at j1
      have h1 : ∀ x ∈ l ++ spl 47 t, (47 : UInt8) ∉ x := by
        intro x hx
        rcases List.mem_append.1 hx with hx | hx
        · rw [e1] at hx; exact spl_no 47 r x hx
        · exact spl_no 47 t x hx
      have := spl_of_join 47 (l ++ spl 47 t) (by simp [hl]) h1
      rw [inter_append l _ hl (spl_ne 47 t), j1, spl_join] at this
      exact this
theorem at_ok (h : WFo T d off) {path : List UInt8} {k : Int} (ha : atT T path = .ok k) : ∃ l n, pathOf path = some l ∧ findT T 1 l = .ok k ∧ T.get k = some n := by
  unfold atT at ha
  cases hp : pathOf path with
  | none => rw [hp] at ha; cases ha
  | some l =>
    rw [hp] at ha
    obtain ⟨r, hr, h1, _⟩ := h.root
    obtain ⟨n, hn, hk⟩ := (find_ok h l 1 k ⟨r, hr, h1⟩ ha).1
    exact ⟨l, n, rfl, ha, (get_iff h.sorted).2 ⟨hn, hk⟩⟩
theorem room_ok (h : WFo T d off) {path s : List UInt8} {k : Int} (hr : roomT T path = .ok (k, s)) : ∃ p up, pathOf path = some (p ++ [s]) ∧ p.length ≤ 7 ∧ nameOk s = true ∧ findT T 1 p = .ok k ∧ T.get k = some up ∧ up.dir = true ∧ getN s up.names = none ∧ up.names.length < 60 ∧ d k = p.length := by
  unfold roomT at hr
  cases hp : pathOf path with
  | none => rw [hp] at hr; simp at hr
  | some l =>
    rw [hp] at hr
    simp only [Option.getD_some] at hr
    split at hr
    · cases hr
    · rename_i hl
      split at hr
      · cases hr
      · rename_i k' hf
        split at hr
        · cases hr
        · rename_i up hu
          split at hr
          · cases hr
          · rename_i hd
            split at hr
            · cases hr
            · rename_i hn
              split at hr
              · cases hr
              · rename_i h60
                simp only [Except.ok.injEq, Prod.mk.injEq] at hr
                obtain ⟨rfl, rfl⟩ := hr
                have hs := snoc_of [] hl
                obtain ⟨h8, hok⟩ := path_names hp
                have hlen := congrArg List.length hs
                simp only [List.length_append, List.length_cons, List.length_nil] at hlen
                obtain ⟨r, hr, h1, hrd, _⟩ := h.root
                have hdir : up.dir = true := by simpa using hd
                refine ⟨l.dropLast, up, by rw [← hs], by omega, hok _ (by rw [hs]; simp), hf, hu, hdir, by simpa using hn, by omega, ?_⟩
                have := (find_ok h _ 1 k' ⟨r, hr, h1⟩ hf).2 r ((get_iff h.sorted).2 ⟨hr, h1⟩) hrd up hu hdir
                rw [this, h.droot]; omega
/-! ### a free number -/
theorem fresh_ok {f : Nat} {k j : Int} (hj : k ≤ j) (hj2 : j < k + f) (hg : T.get j = none) : T.get (freshT T f k) = none ∧ k ≤ freshT T f k ∧ freshT T f k ≤ j := by
  induction f generalizing k with
  | zero => omega
  | succ f ih =>
    unfold freshT
    by_cases hk : (T.get k).isSome = true
    · rw [if_pos hk]
      have hne : j ≠ k := fun e => by rw [e] at hg; rw [hg] at hk; cases hk
      have := ih (k := k + 1) (by omega) (by omega)
      exact ⟨this.1, by omega, this.2.2⟩
    · rw [if_neg hk]
      exact ⟨by simpa using hk, Int.le_refl _, hj⟩
theorem count_step {k : Int} {n : Nd} (hn : n ∈ T) (hk : n.num = k) : T.countP (fun m => decide (k + 1 ≤ m.num)) + 1 ≤ T.countP (fun m => decide (k ≤ m.num)) := by
  induction T with
  | nil => cases hn
  | cons y r ih =>
    rw [List.countP_cons, List.countP_cons]
    rcases List.mem_cons.1 hn with rfl | hm
    · have : r.countP (fun m => decide (k + 1 ≤ m.num)) ≤ r.countP (fun m => decide (k ≤ m.num)) := List.countP_mono_left fun m _ h => by simp at h ⊢; omega
      rw [if_neg (by simp; omega), if_pos (by simp; omega)]; omega
    · have := ih hm
      by_cases h1 : k + 1 ≤ y.num
      · rw [if_pos (by simpa using h1), if_pos (by simp; omega)]; omega
      · rw [if_neg (by simpa using h1)]; split <;> omega
theorem count_many {f : Nat} {k : Int} (h : ∀ j, k ≤ j → j < k + f → ∃ n ∈ T, n.num = j) : f ≤ T.countP (fun m => decide (k ≤ m.num)) := by
  induction f generalizing k with
  | zero => omega
  | succ f ih =>
    obtain ⟨n, hn, hk⟩ := h k (by omega) (by omega)
    have h1 := count_step hn hk
    have h2 := ih (k := k + 1) fun j h1 h2 => h j (by omega) (by omega)
    omega
theorem WFo.fresh (h : WFo T d off) : T.get (freshT T T.length 2) = none ∧ 2 ≤ freshT T T.length 2 ∧ freshT T T.length 2 ≤ T.length + 1 := by
  have : ∃ j, 2 ≤ j ∧ j < 2 + (T.length : Int) ∧ T.get j = none := by
    apply Classical.byContradiction
    intro hc
    have h1 := count_many (T := T) (k := 2) (f := T.length) fun j h1 h2 => by
      cases hg : T.get j with
      | none => exact absurd ⟨j, h1, h2, hg⟩ hc
      | some n => exact ⟨n, (get_iff h.sorted).1 hg⟩
    obtain ⟨r, hr, hr1, _⟩ := h.root
    have h2 := count_step hr hr1
    have h3 := List.countP_le_length (p := fun m : Nd => decide (1 ≤ m.num)) (l := T)
    have h4 : T.countP (fun m => decide ((1 : Int) + 1 ≤ m.num)) = T.countP (fun m => decide (2 ≤ m.num)) := rfl
    omega
  obtain ⟨j, h1, h2, h3⟩ := this
  have := fresh_ok h1 h2 h3
  exact ⟨this.1, this.2.1, by omega⟩
/-! ### the commands -/
theorem wf_makes (h : WF T d) (c : Cmd) : ∃ d', WF (makesT T c).1 d' := by
  unfold makesT
  split
  · exact ⟨d, h⟩
  · rename_i k s hr
    obtain ⟨p, up, hp, hp7, hok, hf, hg, hd, hn, h60, hdk⟩ := room_ok h hr
    split
    · exact ⟨d, h⟩
    · rename_i hT
      obtain ⟨f1, f2, f3⟩ := WFo.fresh h
      generalize hnum : freshT T T.length 2 = num at *
      have hne := get_none.1 f1
      obtain ⟨hkm, hkn⟩ := (get_iff h.sorted).1 hg
      have hkne : k ≠ num := fun e => hne up hkm (by omega)
      let n0 : Nd := ⟨num, c.kind == 1, 1, [], []⟩
      have h1 := wf_add (n0 := n0) h hne (by show 1 < num; omega) (by show num ≤ 65535; have := h.many; omega) rfl rfl rfl (by omega) (d k + 1)
      have g1 : (Tr.add n0 T).get k = some up := by rw [get_add h.sorted hne, if_neg hkne]; exact hg
      have g2 : (Tr.add n0 T).get num = some n0 := by rw [get_add h.sorted hne]; exact if_pos rfl
      have h2 := wf_put (j := num) h1 g1 hd hn h60 hok (by omega) g2 (by show (if k = num then _ else d k) ≤ 7; rw [if_neg hkne]; omega) (fun _ => by show (if num = num then _ else _) = (if k = num then _ else _) + 1; rw [if_pos rfl, if_neg hkne])
      refine ⟨_, wf_off h2 fun n hn h1 => ?_⟩
      show (0 : Int) = (if n.num = num then 1 else 0) - if num = n.num then 1 else 0
      by_cases e : n.num = num
      · rw [if_pos e, if_pos e.symm]; omega
      · rw [if_neg e, if_neg (fun e2 => e e2.symm)]; omega
theorem cut_len {c : Cmd} {b : List UInt8} (h0 : 0 ≤ c.pos) (hb : b.length ≤ 16384) (hp : c.pos ≤ b.length) (h2 : c.kind = 2 → c.pos + c.data.length ≤ 16384) (h3 : c.kind ≠ 2 → c.data = []) : (cutW c b).length ≤ 16384 := by
  unfold cutW
  have h1 : (b.take c.pos.toNat ++ c.data).length ≤ 16384 := by
    rw [List.length_append, List.length_take]
    by_cases h : c.kind = 2
    · have := h2 h; omega
    · rw [h3 h]; simp; omega
  simp only
  split
  · rename_i h
    rw [List.length_append, List.length_drop]; omega
  · exact h1
theorem wf_writes (h : WF T d) (c : Cmd) (h0 : 0 ≤ c.pos) (h3 : c.kind ≠ 2 → c.data = []) : WF (writesT T c).1 d := by
  unfold writesT
  split
  · exact h
  · rename_i k ha
    split
    · exact h
    · rename_i n hg
      split
      · exact h
      · rename_i hd
        split
        · exact h
        · rename_i hb
          have hdf : n.dir = false := by simpa using hd
          obtain ⟨hm, hk⟩ := (get_iff h.sorted).1 hg
          refine wf_upd h hg (fun _ => ⟨rfl, rfl, rfl⟩) (fun _ => ?_) (fun e => absurd e hd) (fun _ => rfl) (fun h1 => ?_) (fun _ _ _ => rfl)
          · exact cut_len h0 (h.file n hm hdf).2 (by omega) (fun h2 => by
              apply Decidable.byContradiction; intro h4; exact hb (.inr ⟨h2, by omega⟩)) h3
          · have := h.count n hm (by omega)
            exact ⟨by show n.links = n.links + 0 - 0; omega, this.2⟩
theorem wf_links (h : WF T d) (c : Cmd) : WF (linksT T c).1 d := by
  unfold linksT
  split
  · exact h
  · rename_i j ha
    split
    · exact h
    · rename_i n hg
      split
      · exact h
      · rename_i hd
        split
        · exact h
        · rename_i k s hr
          obtain ⟨p, up, hp, hp7, hok, hf, hgk, hdk, hn, h60, hdd⟩ := room_ok h hr
          obtain ⟨hm, hj⟩ := (get_iff h.sorted).1 hg
          obtain ⟨r, hr1, hr2⟩ := WFo.get1 h
          have hj1 : j ≠ 1 := fun e => by rw [e, hr1] at hg; obtain rfl := Option.some.inj hg; exact hd hr2
          have hjk : j ≠ k := fun e => by rw [e, hgk] at hg; obtain rfl := Option.some.inj hg; exact hd hdk
          have h1 := wf_put (j := j) h hgk hdk hn h60 hok hj1 hg (by omega) (fun e => absurd e hd)
          have g1 : (T.named k (putN s j)).get j = some n := by rw [get_named, if_neg hjk]; exact hg
          have hc := h.count n hm (by omega)
          refine wf_upd h1 g1 (fun _ => ⟨rfl, rfl, rfl⟩) (fun _ => (h.file n hm (by simpa using hd)).2) (fun e => absurd e hd) (fun e => absurd e hj1) (fun _ => ?_) (fun m _ hmj => ?_)
          · refine ⟨by show n.links + 1 = n.links + 0 - (0 - if j = j then 1 else 0); rw [if_pos rfl]; omega, by show 1 ≤ n.links + 1; omega, fun e => absurd e hd⟩
          · show (0 : Int) = 0 - if j = m.num then 1 else 0
            rw [if_neg (fun e => hmj e.symm)]; omega
/-- where a path that is there has its last name -/
theorem last_ok (h : WFo T d off) {path : List UInt8} {j : Int} (ha : atT T path = .ok j) (hne : path ≠ [47]) : ∃ p s o up, pathOf path = some (p ++ [s]) ∧ findT T 1 (p ++ [s]) = .ok j ∧ findT T 1 p = .ok o ∧ T.get o = some up ∧ up.dir = true ∧ getN s up.names = some j := by
  obtain ⟨l, n, hp, hf, hg⟩ := at_ok h ha
  have hl : l ≠ [] := fun e => by rw [e] at hp; exact hne (path_only hp)
  have hs := snoc_of [] hl
  rw [hs] at hf hp
  obtain ⟨o, up, h1, h2, h3, h4⟩ := find_snoc.1 hf
  exact ⟨_, _, o, up, hp, hf, h1, h2, h3, h4⟩
theorem wf_removes (h : WF T d) (c : Cmd) : WF (removesT T c).1 d := by
  unfold removesT
  split
  · exact h
  · rename_i hne
    split
    · exact h
    · rename_i j ha
      split
      · exact h
      · rename_i n hg
        split
        · exact h
        · rename_i hnm
          have hnm : n.names = [] := by simpa using hnm
          obtain ⟨p, s, o, up, hp, hf, hfo, hgo, hdo, hs⟩ := last_ok h ha hne
          simp only [hp, Option.getD_some, List.dropLast_concat, List.getLastD_concat, hfo]
          obtain ⟨hm, hj⟩ := (get_iff h.sorted).1 hg
          obtain ⟨hom, hon⟩ := (get_iff h.sorted).1 hgo
          have hin := (getG_iff (h.snames up hom)).1 hs
          have hj1 := (h.closed up hom _ hin).1
          have hjo : j ≠ o := fun e => by
            rw [e, hgo] at hg
            obtain rfl := Option.some.inj hg
            rw [hnm] at hin; cases hin
          have h1 := wf_del h hgo hs
          have g1 : (T.named o (delN s)).get j = some n := by rw [get_named, if_neg hjo]; exact hg
          obtain ⟨hm1, _⟩ := (get_iff h1.sorted).1 g1
          have hc := h1.count n hm1 (by rw [hj]; exact hj1)
          split
          · rename_i hl1
            have h2 := wf_drop h1 hm1 (by rw [hj]; exact hj1) (by
              have := hc.1
              rw [if_pos hj.symm] at this; omega) hnm
            rw [hj] at h2
            refine wf_off h2 fun m hm2 _ => ?_
            show (0 : Int) = 0 + if j = m.num then 1 else 0
            rw [if_neg (fun e => (mem_drop.1 hm2).2 e.symm)]; omega
          · rename_i hl1
            have hd : ¬ n.dir = true := fun e => hl1 (hc.2.2 e)
            refine wf_upd h1 g1 (fun _ => ⟨rfl, rfl, rfl⟩) (fun _ => (h.file n hm (by simpa using hd)).2) (fun e => absurd e hd) (fun e => absurd e hj1) (fun _ => ?_) (fun m _ hmj => ?_)
            · refine ⟨by show n.links - 1 = n.links + 0 - (0 + if j = j then 1 else 0); rw [if_pos rfl]; omega, by show 1 ≤ n.links - 1; omega, fun e => absurd e hd⟩
            · show (0 : Int) = 0 + if j = m.num then 1 else 0
              rw [if_neg (fun e => hmj e.symm)]; omega
/-! ### renaming -/
theorem find_mono {T1 : Tr} (hm : ∀ k n1, T1.get k = some n1 → ∃ n, T.get k = some n ∧ (n1.dir = true → n.dir = true) ∧ ∀ s i, getN s n1.names = some i → getN s n.names = some i) : ∀ (p : List (List UInt8)) (j k : Int), findT T1 j p = .ok k → findT T j p = .ok k := by
  intro p
  induction p with
  | nil => intro j k h; exact h
  | cons s r ih =>
    intro j k h
    unfold findT at h ⊢
    cases hg : T1.get j with
    | none => rw [hg] at h; cases h
    | some n1 =>
      rw [hg] at h
      obtain ⟨n, hn, hd, hs⟩ := hm j n1 hg
      rw [hn]
      simp only at h ⊢
      split at h
      · rename_i h1
        rw [if_pos (hd h1)]
        cases hi : getN s n1.names with
        | none => rw [hi] at h; cases h
        | some i =>
          rw [hi] at h
          rw [hs s i hi]
          exact ih i k h
      · cases h
theorem one_parent (h : WFo T d off) {k : Int} (hc : cnt T k ≤ 1) {y y' : Nd} (hy : y ∈ T) (hy' : y' ∈ T) {p p' : List UInt8 × Int} (hp : p ∈ y.names) (hp' : p' ∈ y'.names) (e : p.2 = k) (e' : p'.2 = k) : y = y' ∧ p = p' := by
  have pos : ∀ {l : Nm} {q : List UInt8 × Int}, q ∈ l → q.2 = k → 1 ≤ cntN l k := fun {l q} hq eq => by
    unfold cntN; exact List.countP_pos_iff.2 ⟨q, hq, beq_iff_eq.2 eq⟩
  have hyy : y = y' := by
    apply Classical.byContradiction
    intro hne
    have h1 := cnt_drop h.sorted hy k
    have hm : y' ∈ T.drop y.num := mem_drop.2 ⟨hy', fun e => hne (num_inj h.sorted hy hy' e.symm)⟩
    have h2 := cnt_pos hm hp' e'
    have h3 := pos hp e
    omega
  subst hyy
  refine ⟨rfl, ?_⟩
  apply Classical.byContradiction
  intro hne
  have hs := h.snames y hy
  have h1 := cntN_del hs ((getG_iff hs).2 hp : getG p.1 y.names = some p.2) k
  rw [if_pos e] at h1
  have h2 : p' ∈ delG p.1 y.names := delG_mem.2 ⟨hp', fun e2 => hne (name_inj hs hp hp' e2.symm)⟩
  have h3 := pos h2 e'
  have h4 : cntN y.names k ≤ cnt T k := by have := cnt_drop h.sorted hy k; omega
  omega
theorem wf_cnt (h : WF T d) {k : Int} {n : Nd} (hg : T.get k = some n) (hd : n.dir = true) (h1 : k ≠ 1) : cnt T k ≤ 1 := by
  obtain ⟨hm, hk⟩ := (get_iff h.sorted).1 hg
  have := h.count n hm (by omega)
  rw [hk] at this
  have := this.2.2 hd
  omega
theorem dir_unique (h : WF T d) : ∀ (m : Nat) (p q : List (List UInt8)) (k : Int) (n : Nd), p.length = m → findT T 1 p = .ok k → findT T 1 q = .ok k → T.get k = some n → n.dir = true → p = q := by
  intro m
  induction m with
  | zero =>
    intro p q k n hm hp hq hg hd
    obtain rfl := List.length_eq_zero_iff.1 hm
    have e : 1 = k := by simpa [findT] using hp
    subst e
    rcases nil_or_snoc q with rfl | ⟨q', s, rfl⟩
    · rfl
    · obtain ⟨y, ny, _, hy, _, hs⟩ := find_snoc.1 hq
      obtain ⟨hym, _⟩ := (get_iff h.sorted).1 hy
      exact absurd rfl (h.closed ny hym _ ((getG_iff (h.snames ny hym)).1 hs)).1
  | succ m ih =>
    intro p q k n hm hp hq hg hd
    rcases nil_or_snoc p with rfl | ⟨p', s, rfl⟩
    · simp at hm
    · obtain ⟨y, ny, hpy, hy, hyd, hs⟩ := find_snoc.1 hp
      obtain ⟨hym, hyn⟩ := (get_iff h.sorted).1 hy
      have hin := (getG_iff (h.snames ny hym)).1 hs
      have hk1 := (h.closed ny hym _ hin).1
      rcases nil_or_snoc q with rfl | ⟨q', s', rfl⟩
      · have e : 1 = k := by simpa [findT] using hq
        exact absurd e.symm hk1
      · obtain ⟨z, nz, hpz, hz, hzd, hs'⟩ := find_snoc.1 hq
        obtain ⟨hzm, hzn⟩ := (get_iff h.sorted).1 hz
        have hin' := (getG_iff (h.snames nz hzm)).1 hs'
        obtain ⟨e1, e2⟩ := one_parent h (wf_cnt h hg hd hk1) hym hzm hin hin' rfl rfl
        subst e1
        have e3 : s = s' := congrArg Prod.fst e2
        have e4 : y = z := by omega
        subst e3 e4
        rw [ih p' q' y ny (by simpa using hm) hpy hpz hy hyd]
theorem fold_ge {α : Type} (g : α → Nat) : ∀ (l : List α) (m : Nat), m ≤ l.foldl (fun m p => max m (g p)) m ∧ ∀ p ∈ l, g p ≤ l.foldl (fun m p => max m (g p)) m := by
  intro l
  induction l with
  | nil => intro m; simp
  | cons x r ih =>
    intro m
    have h := ih (max m (g x))
    simp only [List.foldl_cons]
    refine ⟨by omega, fun p hp => ?_⟩
    rcases List.mem_cons.1 hp with rfl | hp
    · omega
    · exact h.2 p hp
theorem deep_ge (h : WFo T d off) : ∀ (p : List (List UInt8)) (f : Nat) (j y : Int), findT T j p = .ok y → p.length ≤ f → p.length ≤ deepT T f j := by
  intro p
  induction p with
  | nil => intro f j y _ _; simp
  | cons s r ih =>
    intro f j y hf hl
    cases f with
    | zero => simp at hl
    | succ f =>
      unfold findT at hf
      unfold deepT
      cases hg : T.get j with
      | none => rw [hg] at hf; cases hf
      | some n =>
        rw [hg] at hf
        simp only at hf ⊢
        split at hf
        · cases hi : getN s n.names with
          | none => rw [hi] at hf; cases hf
          | some i =>
            rw [hi] at hf
            obtain ⟨hm, _⟩ := (get_iff h.sorted).1 hg
            have hin := (getG_iff (h.snames n hm)).1 hi
            have h1 := (fold_ge (fun p : List UInt8 × Int => 1 + deepT T f p.2) n.names 0).2 _ hin
            have h2 := ih f i y hf (by simpa using hl)
            simp only [List.length_cons]
            simp only at h1
            omega
        · cases hf
end
end Go.Proofs.YthmpblccplphfaaGreatDoor
