/-
  Trees of files: what was renamed, renamed back, is as it was. No program here.
  files: Clone.
-/
import Derived.Test.YthmpblccplphfaaGreatDoorFilX
import Derived.Test.YthmpblccplphfaaGreatDoorFilIn
import Derived.Shelf.SlMaps.Clone
namespace Go.Proofs.YthmpblccplphfaaGreatDoor
section
open Go.RowKit
theorem del_del {s : List UInt8} (l : Nm) : delN s (delN s l) = delN s l :=
  delG_self (getG_none.2 fun _ hp => (delG_mem.1 hp).2)
theorem ins_del {s : List UInt8} {k : Int} : ∀ {l : Nm}, SortedN l → (s, k) ∈ l → insG bytesBefore (s, k) (delN s l) = l := by
  intro l
  induction l with
  | nil => intro _ h; cases h
  | cons y r ih =>
    intro hs h
    obtain ⟨h1, h2⟩ := List.pairwise_cons.1 hs
    rcases List.mem_cons.1 h with rfl | hr
    · have e : delN s ((s, k) :: r) = r := by
        unfold delN delG
        rw [List.filter_cons, if_neg (by simp)]
        exact List.filter_eq_self.2 fun p hp => by
          have := h1 p hp
          rw [beq_false_of_ne (fun e => by rw [e, WideAt.bytes_irrefl] at this; cases this)]; rfl
      rw [e]
      cases r with
      | nil => rfl
      | cons z r => unfold insG; rw [if_pos (h1 z (by simp))]
    · have h3 := h1 _ hr
      have hne : y.1 ≠ s := fun e => by rw [e, WideAt.bytes_irrefl] at h3; cases h3
      have e : delN s (y :: r) = y :: delN s r := by
        unfold delN delG
        rw [List.filter_cons, if_pos (by simpa using hne)]
      rw [e]
      unfold insG
      rw [if_neg (fun h4 => by have := WideShapes.bytes_trans _ _ _ h3 h4; rw [WideAt.bytes_irrefl] at this; cases this), ih h2 hr]
theorem put_del {s : List UInt8} {k : Int} {l : Nm} (hs : SortedN l) (h : getN s l = some k) : putN s k (delN s l) = l := by
  show insG bytesBefore (s, k) (delN s (delN s l)) = l
  rw [del_del]; exact ins_del hs ((getG_iff hs).1 h)
theorem del_put {s : List UInt8} {k : Int} {l : Nm} (h : getN s l = none) : delN s (putN s k l) = l := by
  show delN s (insG bytesBefore (s, k) (delN s l)) = l
  rw [show delN s l = l from delG_self h]
  have hn := getG_none.1 h
  clear h
  induction l with
  | nil => simp [insG, delG]
  | cons y r ih =>
    unfold insG
    have hy := hn y (by simp)
    split
    · unfold delN delG
      rw [List.filter_cons, if_neg (by simp)]
      exact List.filter_eq_self.2 fun p hp => by rw [beq_false_of_ne (hn p hp)]; rfl
    · have := ih fun p hp => hn p (by simp [hp])
      unfold delN delG at this ⊢
      rw [List.filter_cons, if_pos (by simpa using hy), this]
section
variable {T : Tr} {d : Int → Nat}
theorem find_len (h : WF T d) {p : List (List UInt8)} {y : Int} (hf : findT T 1 p = .ok y) : p.length ≤ 8 := by
  rcases nil_or_snoc p with rfl | ⟨q, s, rfl⟩
  · simp
  · obtain ⟨z, nz, hq, hz, hzd, hs⟩ := find_snoc.1 hf
    obtain ⟨hm, hn⟩ := (get_iff h.sorted).1 hz
    obtain ⟨r, hr, h1, hrd, _⟩ := h.root
    have h2 := (find_ok h q 1 z ⟨r, hr, h1⟩ hq).2 r ((get_iff h.sorted).2 ⟨hr, h1⟩) hrd nz hz hzd
    have h3 := h.deep nz hm (List.ne_nil_of_mem ((getG_iff (h.snames nz hm)).1 hs))
    rw [hn] at h3
    rw [h.droot] at h2
    simp only [List.length_append, List.length_cons, List.length_nil]; omega
theorem fold_pick {α : Type} (g : α → Nat) : ∀ (l : List α) (m : Nat), l.foldl (fun m p => max m (g p)) m = m ∨ ∃ p ∈ l, l.foldl (fun m p => max m (g p)) m = g p := by
  intro l
  induction l with
  | nil => intro m; exact .inl rfl
  | cons x r ih =>
    intro m
    simp only [List.foldl_cons]
    rcases ih (max m (g x)) with h | ⟨p, hp, h⟩
    · rw [h]
      rcases Nat.le_total m (g x) with h1 | h1
      · exact .inr ⟨x, by simp, by omega⟩
      · exact .inl (by omega)
    · exact .inr ⟨p, by simp [hp], h⟩
theorem deep_path (h : WF T d) : ∀ (f : Nat) (j : Int), ∃ p y, findT T j p = .ok y ∧ p.length = deepT T f j := by
  intro f
  induction f with
  | zero => intro j; exact ⟨[], j, rfl, rfl⟩
  | succ f ih =>
    intro j
    unfold deepT
    cases hg : T.get j with
    | none => exact ⟨[], j, rfl, rfl⟩
    | some n =>
      obtain ⟨hm, _⟩ := (get_iff h.sorted).1 hg
      simp only
      rcases fold_pick (fun p : List UInt8 × Int => 1 + deepT T f p.2) n.names 0 with e | ⟨q, hq, e⟩
      · rw [e]; exact ⟨[], j, rfl, rfl⟩
      · rw [e]
        obtain ⟨p, y, hp, hl⟩ := ih q.2
        have hd : n.dir = true := by
          cases hd : n.dir with
          | true => rfl
          | false => rw [(h.file n hm hd).1] at hq; cases hq
        refine ⟨q.1 :: p, y, ?_, by simp only [List.length_cons]; omega⟩
        rw [find_cons, hg]
        simp only [hd, if_true]
        rw [show getN q.1 n.names = some q.2 from (getG_iff (h.snames n hm)).2 hq]
        exact hp
section
variable {c : Cmd} {p1 p2 : List (List UInt8)} {s1 s2 : List UInt8} {o k j : Int} {upo upk nj : Nd}
abbrev renT (T : Tr) (o k j : Int) (s1 s2 : List UInt8) : Tr := (T.named o (delN s1)).named k (putN s2 j)
def renN (o k j : Int) (s1 s2 : List UInt8) (z : Int) (l : Nm) : Nm := (if z = k then putN s2 j else id) ((if z = o then delN s1 else id) l)
theorem ren_get {z : Int} {nz : Nd} (hz : T.get z = some nz) : (renT T o k j s1 s2).get z = some { nz with names := renN o k j s1 s2 z nz.names } := by
  rw [get_named, get_named, hz]
  unfold renN
  by_cases h1 : z = k
  · rw [if_pos h1, if_pos h1]
    by_cases h2 : z = o
    · rw [if_pos h2, if_pos h2]; rfl
    · rw [if_neg h2, if_neg h2]; rfl
  · rw [if_neg h1, if_neg h1]
    by_cases h2 : z = o
    · rw [if_pos h2, if_pos h2]; rfl
    · rw [if_neg h2, if_neg h2]; rfl
theorem ren_edge (h : WF T d) (r : Ren T d c p1 s1 o p2 s2 k j upo upk nj) {z y : Int} {nz : Nd} {s : List UInt8} (hz : T.get z = some nz) (hs : getN s nz.names = some y) (hne : z ≠ o ∨ s ≠ s1) : getN s (renN o k j s1 s2 z nz.names) = some y := by
  obtain ⟨hm, _⟩ := (get_iff h.sorted).1 hz
  have hsn := h.snames nz hm
  have hin := (getG_iff hsn).1 hs
  have h1 : (s, y) ∈ (if z = o then delN s1 else id) nz.names := by
    by_cases e : z = o
    · rw [if_pos e]; exact delG_mem.2 ⟨hin, hne.resolve_left (fun f => f e)⟩
    · rw [if_neg e]; exact hin
  have h2 : SortedN ((if z = o then delN s1 else id) nz.names) := by
    by_cases e : z = o
    · rw [if_pos e]; exact delG_sorted hsn
    · rw [if_neg e]; exact hsn
  unfold renN
  by_cases e : z = k
  · rw [if_pos e]
    refine (getG_iff (putG_sorted h2)).2 (putG_mem.2 (.inr ⟨h1, fun e2 => ?_⟩))
    have e3 : nz = upk := Option.some.inj (hz.symm.trans (by rw [e]; exact r.gk))
    have e4 : s = s2 := e2
    rw [e4, e3, r.new] at hs; cases hs
  · rw [if_neg e]; exact (getG_iff h2).2 h1
theorem ren_find (h : WF T d) (r : Ren T d c p1 s1 o p2 s2 k j upo upk nj) (m : Nat) : ∀ (p : List (List UInt8)) (a y : Int), p.length = m → findT T a p = .ok y → (∀ q t, p = q ++ s1 :: t → findT T a q ≠ .ok o) → findT (renT T o k j s1 s2) a p = .ok y := by
  induction m with
  | zero =>
    intro p a y hp hf _
    obtain rfl := List.length_eq_zero_iff.1 hp
    exact hf
  | succ m ih =>
    intro p a y hp hf hq
    rcases nil_or_snoc p with rfl | ⟨q, s, rfl⟩
    · simp at hp
    · obtain ⟨z, nz, hfz, hz, hzd, hs⟩ := find_snoc.1 hf
      have h1 := ih q a z (by simpa using hp) hfz fun q' t e => hq q' (t ++ [s]) (by rw [e]; simp)
      refine find_snoc.2 ⟨z, _, h1, ren_get hz, hzd, ren_edge h r hz hs ?_⟩
      by_cases e : s = s1
      · exact .inl fun e2 => hq q [] (by rw [e]) (by rw [hfz, e2])
      · exact .inr e
theorem ren_fo (h : WF T d) (r : Ren T d c p1 s1 o p2 s2 k j upo upk nj) : findT (renT T o k j s1 s2) 1 p1 = .ok o := by
  refine ren_find h r _ p1 1 o rfl r.fo fun q t e hq => ?_
  have h1 := dir_unique h _ q p1 o upo rfl hq r.fo r.go r.dirO
  have h2 := congrArg List.length e
  rw [h1, List.length_append, List.length_cons] at h2
  omega
theorem ren_fk (h : WF T d) (r : Ren T d c p1 s1 o p2 s2 k j upo upk nj) : findT (renT T o k j s1 s2) 1 p2 = .ok k := by
  refine ren_find h r _ p2 1 k rfl r.fk fun q t e hq => ?_
  have := dir_unique h _ q p1 o upo rfl hq r.fo r.go r.dirO
  have h3 := prefix_path r.path (q := t ++ [s2]) (by rw [r.dest, e, this]; simp) (by simp) (by simp)
  rw [r.apart] at h3; cases h3
theorem ren_new (h : WF T d) (r : Ren T d c p1 s1 o p2 s2 k j upo upk nj) : getN s2 (renN o k j s1 s2 k upk.names) = some j := by
  obtain ⟨hm, _⟩ := (get_iff h.sorted).1 r.gk
  unfold renN
  rw [if_pos rfl]
  refine (getG_iff (putG_sorted ?_)).2 (putG_mem.2 (.inl rfl))
  by_cases e : k = o
  · rw [if_pos e]; exact delG_sorted (h.snames upk hm)
  · rw [if_neg e]; exact h.snames upk hm
theorem ren_fj (h : WF T d) (r : Ren T d c p1 s1 o p2 s2 k j upo upk nj) : findT (renT T o k j s1 s2) 1 (p2 ++ [s2]) = .ok j :=
  find_snoc.2 ⟨k, _, ren_fk h r, ren_get r.gk, r.dirK, ren_new h r⟩
theorem ren_s (h : WF T d) (r : Ren T d c p1 s1 o p2 s2 k j upo upk nj) (e : k = o) : s1 ≠ s2 := fun e2 => by
  have e3 : upo = upk := Option.some.inj (r.go.symm.trans (by rw [← e]; exact r.gk))
  have := r.was
  rw [e3, e2, r.new] at this; cases this
theorem ren_gone (h : WF T d) (r : Ren T d c p1 s1 o p2 s2 k j upo upk nj) : getN s1 (renN o k j s1 s2 o upo.names) = none := by
  rw [getG_none]
  intro p hp
  unfold renN at hp
  rw [if_pos rfl] at hp
  by_cases e : o = k
  · rw [if_pos e] at hp
    rcases putG_mem.1 hp with rfl | ⟨hp, _⟩
    · exact (ren_s h r e.symm).symm
    · exact (delG_mem.1 hp).2
  · rw [if_neg e] at hp
    exact (delG_mem.1 hp).2
theorem ren_room (h : WF T d) (r : Ren T d c p1 s1 o p2 s2 k j upo upk nj) : (renN o k j s1 s2 o upo.names).length < 60 := by
  obtain ⟨hm, _⟩ := (get_iff h.sorted).1 r.go
  have h1 := (h.names upo hm).1
  have hin := (getG_iff (h.snames upo hm)).1 r.was
  have h2 : (delN s1 upo.names).length < upo.names.length := by
    unfold delN delG
    rcases Nat.lt_or_ge (List.filter (fun p => !(p.1 == s1)) upo.names).length upo.names.length with h | h
    · exact h
    · have e := List.filter_eq_self.1 (List.Sublist.eq_of_length_le List.filter_sublist h) _ hin
      simp at e
  unfold renN
  rw [if_pos rfl]
  by_cases e : o = k
  · have e3 : upo = upk := Option.some.inj (r.go.symm.trans (by rw [e]; exact r.gk))
    have := r.room
    rw [← e3] at this
    rw [if_pos e, putG_len]
    have := delG_len s2 (delN s1 upo.names)
    omega
  · rw [if_neg e]; show (delN s1 upo.names).length < 60; omega
/-- what is found below the moved node was there ahead -/
theorem ren_below (h : WF T d) (r : Ren T d c p1 s1 o p2 s2 k j upo upk nj) (m : Nat) : ∀ (p : List (List UInt8)) (y : Int), p.length = m → findT (renT T o k j s1 s2) j p = .ok y → findT T j p = .ok y := by
  obtain ⟨d', h'⟩ := wf_ren h r
  induction m with
  | zero =>
    intro p y hp hf
    obtain rfl := List.length_eq_zero_iff.1 hp
    exact hf
  | succ m ih =>
    intro p y hp hf
    rcases nil_or_snoc p with rfl | ⟨q, s, rfl⟩
    · simp at hp
    · obtain ⟨z, nz', hfz, hz', hzd, hs⟩ := find_snoc.1 hf
      have h1 := ih q z (by simpa using hp) hfz
      have hjd : nj.dir = true := by
        cases hjd : nj.dir with
        | true => rfl
        | false =>
          exfalso
          cases q with
          | nil =>
            have e : j = z := by simpa [findT] using h1
            rw [← e, ren_get r.gj] at hz'
            obtain rfl := Option.some.inj hz'
            rw [hjd] at hzd; cases hzd
          | cons a q =>
            rw [find_cons, r.gj] at h1
            simp [hjd] at h1
      have hzk : z ≠ k := fun e => ren_sub h r hjd q (by rw [h1, e])
      obtain ⟨nz, hz⟩ : ∃ nz, T.get z = some nz := by
        obtain ⟨njm, njn⟩ := (get_iff h.sorted).1 r.gj
        obtain ⟨n, hn, hk⟩ := (find_ok h q j z ⟨nj, njm, njn⟩ h1).1
        exact ⟨n, (get_iff h.sorted).2 ⟨hn, hk⟩⟩
      rw [ren_get hz] at hz'
      obtain rfl := Option.some.inj hz'
      obtain ⟨hm, _⟩ := (get_iff h.sorted).1 hz
      refine find_snoc.2 ⟨z, nz, h1, hz, hzd, ?_⟩
      simp only [renN, if_neg hzk, id] at hs
      by_cases e : z = o
      · rw [if_pos e, getG_iff (delG_sorted (h.snames nz hm))] at hs
        exact (getG_iff (h.snames nz hm)).2 (delG_mem.1 hs).1
      · rw [if_neg e] at hs; exact hs
theorem ren_deep (h : WF T d) (r : Ren T d c p1 s1 o p2 s2 k j upo upk nj) : (p1 ++ [s1]).length + deepT (renT T o k j s1 s2) 9 j ≤ 8 := by
  obtain ⟨d', h'⟩ := wf_ren h r
  obtain ⟨p, y, hp, hl⟩ := deep_path h' 9 j
  have h1 := ren_below h r _ p y rfl hp
  have h2 : findT T 1 (p1 ++ [s1] ++ p) = .ok y := by rw [find_append, r.fj]; exact h1
  have h3 := find_len h h2
  rw [List.length_append, hl] at h3
  exact h3
def stepN (k : Int) (f : Nm → Nm) (x : Nd) : Nd := if x.num == k then { x with names := f x.names } else x
theorem step_pos {k : Int} {f : Nm → Nm} {x : Nd} (h : x.num = k) : stepN k f x = { x with names := f x.names } := if_pos (beq_iff_eq.2 h)
theorem step_neg {k : Int} {f : Nm → Nm} {x : Nd} (h : x.num ≠ k) : stepN k f x = x := if_neg (by simpa using h)
theorem ren_back (h : WF T d) (r : Ren T d c p1 s1 o p2 s2 k j upo upk nj) : ((renT T o k j s1 s2).named k (delN s2)).named o (putN s1 j) = T := by
  unfold renT Tr.named Tr.upd
  rw [List.map_map, List.map_map, List.map_map]
  refine (List.map_congr_left fun n hn => ?_).trans (List.map_id T)
  have hg := (get_iff h.sorted).2 ⟨hn, rfl⟩
  have hsn := h.snames n hn
  show stepN o (putN s1 j) (stepN k (delN s2) (stepN k (putN s2 j) (stepN o (delN s1) n))) = n
  by_cases e1 : n.num = o
  · have f1 : n = upo := Option.some.inj (hg.symm.trans (by rw [e1]; exact r.go))
    have w1 := r.was
    rw [← f1] at w1
    by_cases e2 : n.num = k
    · have f2 : n = upk := Option.some.inj (hg.symm.trans (by rw [e2]; exact r.gk))
      have w2 := r.new
      rw [← f2] at w2
      have w3 : getN s2 (delN s1 n.names) = none := getG_none.2 fun p hp => getG_none.1 w2 p (delG_mem.1 hp).1
      have e : putN s1 j (delN s2 (putN s2 j (delN s1 n.names))) = n.names := by rw [del_put w3, put_del hsn w1]
      rw [step_pos (x := n) e1, step_pos (x := { n with names := delN s1 n.names }) e2, step_pos (x := { n with names := putN s2 j (delN s1 n.names) }) e2, step_pos (x := { n with names := delN s2 (putN s2 j (delN s1 n.names)) }) e1]
      show ({ n with names := putN s1 j (delN s2 (putN s2 j (delN s1 n.names))) } : Nd) = n
      rw [e]
    · have e : putN s1 j (delN s1 n.names) = n.names := put_del hsn w1
      rw [step_pos (x := n) e1, step_neg (x := { n with names := delN s1 n.names }) e2, step_neg (x := { n with names := delN s1 n.names }) e2, step_pos (x := { n with names := delN s1 n.names }) e1]
      show ({ n with names := putN s1 j (delN s1 n.names) } : Nd) = n
      rw [e]
  · by_cases e2 : n.num = k
    · have f2 : n = upk := Option.some.inj (hg.symm.trans (by rw [e2]; exact r.gk))
      have w2 := r.new
      rw [← f2] at w2
      have e : delN s2 (putN s2 j n.names) = n.names := del_put w2
      rw [step_neg (x := n) e1, step_pos (x := n) e2, step_pos (x := { n with names := putN s2 j n.names }) e2, step_neg (x := { n with names := delN s2 (putN s2 j n.names) }) e1]
      show ({ n with names := delN s2 (putN s2 j n.names) } : Nd) = n
      rw [e]
    · rw [step_neg (x := n) e1, step_neg (x := n) e2, step_neg (x := n) e2, step_neg (x := n) e1]
theorem ren_again (h : WF T d) (r : Ren T d c p1 s1 o p2 s2 k j upo upk nj) : renamesT (renT T o k j s1 s2) ⟨5, c.dest, c.path, 0, []⟩ = (T, 0) := by
  have hne : c.dest ≠ [47] := fun e => by have := r.dest; rw [e] at this; simp [pathOf] at this
  unfold renamesT
  dsimp only
  rw [if_neg hne]
  have ha : atT (renT T o k j s1 s2) c.dest = .ok j := by unfold atT; rw [r.dest]; exact ren_fj h r
  have hp : ¬ Lib.hasPrefix c.path (c.dest ++ [47]) = true := fun hp => by
    obtain ⟨q, hq, e⟩ := prefix_names r.dest r.path hp (by simp)
    have hf := r.fj
    rw [e, find_append] at hf
    cases hx : findT T 1 (p2 ++ [s2]) with
    | error e => rw [hx] at hf; cases hf
    | ok x =>
      obtain ⟨y, ny, hy, hgy, _, hs⟩ := find_snoc.1 hx
      have e2 : y = k := by rw [r.fk] at hy; exact (Except.ok.inj hy).symm
      rw [e2, r.gk] at hgy
      obtain rfl := Option.some.inj hgy
      rw [r.new] at hs; cases hs
  have hr : roomT (renT T o k j s1 s2) c.path = .ok (o, s1) := by
    unfold roomT
    rw [r.path]
    simp only [Option.getD_some, List.dropLast_concat, List.getLastD_concat, ren_fo h r, ren_get r.go]
    rw [if_neg (by simp), if_neg (by simp [r.dirO]), if_neg (by rw [ren_gone h r]; simp), if_neg (by have := ren_room h r; omega)]
  rw [ha]
  simp only
  rw [if_neg hp, hr]
  simp only [r.path, r.dest, Option.getD_some, List.dropLast_concat, List.getLastD_concat, ren_fk h r]
  rw [if_neg (by have := ren_deep h r; omega), ren_back h r]
end
theorem do_back (h : WF T d) {c : Cmd} (hk : c.kind = 5) (h0 : (doT T c).2 = 0) (hb : ∀ a b : List UInt8, (pathOf a).isSome = true → (pathOf b).isSome = true → (⟨5, a, b, 0, []⟩ : Cmd).ok = true) : doT (doT T c).1 ⟨5, c.dest, c.path, 0, []⟩ = (T, 0) := by
  by_cases hok : c.ok = false
  · rw [doT, if_pos hok] at h0; cases h0
  · have e : doT T c = renamesT T c := by rw [doT, if_neg hok, if_neg (by omega), if_neg (by omega), if_neg (by omega), if_pos hk]
    rw [e] at h0 ⊢
    rcases ren_cases h c with ⟨e, he, h140⟩ | ⟨p1, s1, o, p2, s2, k, j, upo, upk, nj, r, he⟩
    · rw [he] at h0; simp only at h0; omega
    · rw [he]
      have hok2 := hb c.dest c.path (by rw [r.dest]; rfl) (by rw [r.path]; rfl)
      rw [doT, if_neg (by rw [hok2]; decide)]
      exact ren_again h r
end
end
section
open Go.RowKit Go.Maps Go.Shelf
theorem cloneS_any (b : Nat) (l : Nm) (w : World) (h : MapS w b l) : Calls Tryz.prog 44 #[.map (some b)] w fun e w' => e = .returned (.map (some w.heap.size)) ∧ MapS w' w.heap.size l ∧ Keep w w' := by
  refine (AnyW.maps_Clone_owns Tryz.cloneN 9 (plainElem Tryz.prog 3) b l.length (toN l) w h).mono ?_
  rintro e w' ⟨rfl, h1, _, h3⟩
  exact ⟨rfl, h1, Mod.ofBelow h3⟩
theorem cloneN_any (w : World) : Calls Tryz.prog 44 #[.map none] w fun e w' => e = .returned (.map none) ∧ w' = w :=
  AnyW.maps_Clone_nil Tryz.cloneN w
/-- the nodes whose keys were met -/
def metT (T : Tr) (left : Lit → Bool) : Tr := T.filter fun n => !left (.int .i64 n.num)
theorem met_all {T : Tr} {left : Lit → Bool} (h : ∀ l, left l = false) : metT T left = T := List.filter_eq_self.2 fun n _ => by rw [h]; rfl
theorem met_none {T : Tr} {left : Lit → Bool} (h : ∀ n ∈ T, left (.int .i64 n.num) = true) : metT T left = [] := List.filter_eq_nil_iff.2 fun n hn => by rw [h n hn]; simp
theorem mem_met {T : Tr} {left : Lit → Bool} {n : Nd} : n ∈ metT T left ↔ n ∈ T ∧ left (.int .i64 n.num) = false := by simp [metT]
theorem met_step {T : Tr} {left : Lit → Bool} {x : Int} {n : Nd} (hs : Sorted T) (hn : n ∈ T) (hx : n.num = x) (hl : left (.int .i64 x) = true) : Tr.add n (metT T left) = metT T (fun z => left z && !z.sameKey (.int .i64 x)) := by
  subst hx
  induction T with
  | nil => cases hn
  | cons y r ih =>
    obtain ⟨h1, h2⟩ := List.pairwise_cons.1 hs
    rcases List.mem_cons.1 hn with rfl | hm
    · have e1 : metT (n :: r) left = metT r left := by
        unfold metT; rw [List.filter_cons, if_neg (by rw [hl]; simp)]
      have e2 : metT (n :: r) (fun z => left z && !z.sameKey (.int .i64 n.num)) = n :: metT r left := by
        unfold metT
        rw [List.filter_cons, if_pos (by simp [int_same])]
        congr 1
        refine List.filter_congr fun m hm => ?_
        have := h1 m hm
        simp only [int_same, beq_false_of_ne (show m.num ≠ n.num by omega)]; simp
      rw [e1, e2]
      cases hq : metT r left with
      | nil => rfl
      | cons z q =>
        have hz : z ∈ metT r left := by rw [hq]; simp
        have := h1 z (mem_met.1 hz).1
        show (if n.num < z.num then _ else _) = _
        rw [if_pos this]
    · have h3 := h1 n hm
      have e : (Lit.int .i64 y.num).sameKey (.int .i64 n.num) = false := by rw [int_same]; exact beq_false_of_ne (by omega)
      by_cases hy : left (.int .i64 y.num) = true
      · have e1 : metT (y :: r) left = metT r left := by
          unfold metT; rw [List.filter_cons, if_neg (by rw [hy]; simp)]
        have e2 : metT (y :: r) (fun z => left z && !z.sameKey (.int .i64 n.num)) = metT r (fun z => left z && !z.sameKey (.int .i64 n.num)) := by
          unfold metT; rw [List.filter_cons, if_neg (by simp [hy, e])]
        rw [e1, e2]; exact ih h2 hm
      · have hy' : left (.int .i64 y.num) = false := by simpa using hy
        have e1 : metT (y :: r) left = y :: metT r left := by
          unfold metT; rw [List.filter_cons, if_pos (by rw [hy']; simp)]
        have e2 : metT (y :: r) (fun z => left z && !z.sameKey (.int .i64 n.num)) = y :: metT r (fun z => left z && !z.sameKey (.int .i64 n.num)) := by
          unfold metT; rw [List.filter_cons, if_pos (by simp [hy'])]
        rw [e1, e2]
        show (if n.num < y.num then _ else _) = _
        rw [if_neg (by omega), ih h2 hm]
section
variable {T : Tr} {d : Int → Nat} {p tb : Nat} {A M : Int → Nat} {role : Nat → Role} {w : World}
def ClonePost (w : World) (T : Tr) (e : Ending) (w' : World) : Prop :=
  ∃ p tb A M role, e = .returned (.pointer (some ⟨p, 0, none⟩)) ∧ TreeAt w' p T tb A M role ∧ (∀ b, role b ≠ .none → w.heap.size ≤ b) ∧ Keep w w'
set_option maxRecDepth 100000 in
set_option maxHeartbeats 8000000 in
theorem clone_any (h : TreeAt w p T tb A M role) (hw : WF T d) : Calls Tryz.prog 22 #[.pointer (some ⟨p, 0, none⟩)] w (ClonePost w T) := by
  have HW := Lib.hid hw
  have hmm := @run_makeMap Tryz.prog
  have h60 := hw.many
  have HT0 : RowKit.Hid (TreeAt ((w.alloc (.map #[] 0)).alloc (.cells #[.map (some w.heap.size)] 64)) (w.heap.size + 1) [] w.heap.size (fun _ => 0) (fun _ => 0) (fun b => if b = w.heap.size + 1 then .tree else if b = w.heap.size then .of else .none)) := Lib.hid (tree_none (blk_new_at (by simp) _ _) ((MapO.made w).mod ((Mod.refl (fun _ => False) _).alloc _) id) (by omega))
  have HK0 : RowKit.Hid (Keep w ((w.alloc (.map #[] 0)).alloc (.cells #[.map (some w.heap.size)] 64))) := Lib.hid (((Mod.refl _ w).alloc _).alloc _)
  have hsz0 : ((w.alloc (.map #[] 0)).alloc (.cells #[.map (some w.heap.size)] 64)).heap.size = w.heap.size + 2 := by simp
  have HT : RowKit.Hid (TreeAt w p T tb A M role) := Lib.hid h
  have htl := h.of.lt
  clear hw h
  go_enter Tryz.func22, Tryz.ntmps22
  have c0 : ((w.alloc (.map #[] 0)).alloc (.cells #[.map (some w.heap.size)] 64)).cell? ⟨p, 0, none⟩ = some (.map (some tb)) := blk_cell (HT.out.keep HK0.out).tree 0
  go_wp2_with (at_range; refine wpList_range_own _ rfl _ 62 rfl 3 65 (int_keyed Tryz.underlying3) Tryz.underlying62 _ tb (addrs T A).length (toO (addrs T A)) rfl ((HT.out.keep HK0.out).of) ?_; intro w7 hrg0 hg0 hs0)
  try go_frame
  have Hrg0 := Lib.hid hrg0
  have HKg : RowKit.Hid (Keep ((w.alloc (.map #[] 0)).alloc (.cells #[.map (some w.heap.size)] 64)) w7) := Lib.hid (keep_grown hg0)
  rw [hsz0] at hs0
  rw [hsz0] at Hrg0
  have HT7 := Lib.hid (HT0.out.keep HKg.out)
  have HK7 := Lib.hid (HK0.out.keep HKg.out)
  clear hrg0 hg0 c0 HT0 HK0 HKg hsz0
  go_loopw [15] (fun _ wr => ∃ (left : Lit → Bool) (cnt : Nat) (A' M' : Int → Nat) (role' : Nat → Role), World.ranges wr Tryz.prog 3 ptrElem tb (w.heap.size + 2) (addrs T A).length (toO (addrs T A)) left cnt ∧ Keep w wr ∧ TreeAt wr (w.heap.size + 1) (metT T left) w.heap.size A' M' role' ∧ RowKit.Hid (∀ b, role' b ≠ .none → w.heap.size ≤ b ∧ b ≠ w.heap.size + 2) ∧ w.heap.size + 3 ≤ wr.heap.size) (fun _ wr => wr.rangeLeft tb (w.heap.size + 2))
  case atStart =>
    have hno : metT T (has (toO (addrs T A))) = [] := met_none fun n hn => by
      rw [has_toG int_same, addrs_get, (get_iff HW.out.sorted).2 ⟨hn, rfl⟩]; rfl
    refine ⟨_, _, fun _ => 0, fun _ => 0, fun b => if b = w.heap.size + 1 then Role.tree else if b = w.heap.size then Role.of else Role.none, Hrg0.out, HK7.out, by rw [hno]; exact HT7.out, Lib.hid fun b hb => ?_, by omega⟩
    by_cases e : b = w.heap.size + 1
    · omega
    · by_cases e2 : b = w.heap.size
      · omega
      · simp only [if_neg e, if_neg e2] at hb; exact absurd rfl hb
  case round =>
    clear Hrg0 HK7 HT7
    obtain ⟨left, cn, A', M', role', hrg, hK, hT', Hq, hsz⟩ := hrel
    have Hrg := Lib.hid hrg
    have HK := Lib.hid hK
    have HT' := Lib.hid hT'
    clear hrg hK hT'
    go_wp2_with (at_next; refine wpList_next_ranges wr rfl _ rfl 3 (int_keyed Tryz.underlying3) ptrElem (Value.int .i64) Value.pointer inv_int inv_ptr tb (w.heap.size + 2) _ (toO (addrs T A)) left cn rfl Hrg.out ?_ ?_)
    · intro _ hl0
      have HTe : RowKit.Hid (TreeAt wr (w.heap.size + 1) T w.heap.size A' M' role') := Lib.hid (by have := HT'.out; rw [met_all hl0] at this; exact this)
      clear hl0
      go_wp2_with fail
      go_ret
      exact ⟨w.heap.size + 1, w.heap.size, A', M', role', rfl, HTe.out, fun b hb => (Hq.out b hb).1, HK.out⟩
    · intro x c kl yd yp w' cnt' hkey hlk hv hat hrg1 hlt hg1 hs1 hen
      obtain ⟨x', ex, rfl, _⟩ := Maps.keyOf_int_inv Tryz.underlying3 hkey
      cases ex
      obtain ⟨a, hga, rfl⟩ := ptr_of hv hat
      rw [addrs_get] at hga
      cases hgn : T.get x with
      | none => rw [hgn] at hga; cases hga
      | some n =>
        rw [hgn] at hga
        obtain ⟨hnm, hnx⟩ := (get_iff HW.out.sorted).1 hgn
        have ha : A x = a := by
          have : A n.num = a := Option.some.inj hga
          rw [hnx] at this; exact this
        subst ha
        have HK' : RowKit.Hid (Keep w w') := Lib.hid (HK.out.grown hg1 (fun i e => .inr (by injection e with e; omega)))
        have HTo := Lib.hid (HT.out.keep HK'.out)
        have HTn : RowKit.Hid (TreeAt w' (w.heap.size + 1) (metT T left) w.heap.size A' M' role') := Lib.hid (HT'.out.mod (mod_grown hg1) (fun b hb e => (Hq.out b hb).2 e))
        have a0 : w'.cell? ⟨A x, 0, none⟩ = some (.int .i64 n.num) := HTo.out.cell HW.out.sorted hgn 0
        have a1 : w'.cell? ⟨A x, 1, none⟩ = some (.bool n.dir) := HTo.out.cell HW.out.sorted hgn 1
        have a2 : w'.cell? ⟨A x, 2, none⟩ = some (.int .i64 n.links) := HTo.out.cell HW.out.sorted hgn 2
        have a3 : w'.cell? ⟨A x, 3, none⟩ = some (.string ⟨n.data.toArray⟩) := HTo.out.cell HW.out.sorted hgn 3
        have a4 : w'.cell? ⟨A x, 4, none⟩ = some (.map (if n.dir = true then some (M x) else none)) := HTo.out.cell HW.out.sorted hgn 4
        have hmap := fun hd => (HTo.out.names n hnm hd)
        rw [hnx] at hmap
        have Hmap := Lib.hid hmap
        have Hn := Lib.hid (And.intro hnm hnx)
        have hlk1 := Lib.hid hlk
        have Hrg1 := Lib.hid hrg1
        have Hlt := Lib.hid (show cnt' < cn from hlt)
        have Hleft := Lib.hid (Hrg.out.left_eq)
        have hxb := (node_num HW.out hgn)
        have hwl := hg1.size
        clear hkey hlk hv hat hrg1 hlt hg1 hs1 hga hnm hnx hgn hmap
        cases hd : n.dir with
        | true =>
          rw [hd] at a1 a4
          rw [if_pos rfl] at a4
          have Hd := Lib.hid hd
          have hAx := lt_of_cell a4
          have e4 : (w'.alloc (.cells #[.int .i64 x, .bool true, .int .i64 n.links, .string ⟨n.data.toArray⟩, .map (some (M x))] 70)).cell? ⟨A x, 4, none⟩ = some (.map (some (M x))) := by
            rw [((Mod.refl (fun _ => False) w').alloc _).cell (p := ⟨A x, 4, none⟩) hAx id]; exact a4
          clear hd
          go_wp2_with fail
          have HB1 : RowKit.Hid (World.blk (w'.alloc (.cells #[.int .i64 x, .bool true, .int .i64 n.links, .string ⟨n.data.toArray⟩, .map (some (M x))] 70)) w'.heap.size #[.int .i64 x, .bool true, .int .i64 n.links, .string ⟨n.data.toArray⟩, .map (some (M x))] 70) := Lib.hid (blk_new _ _ _)
          have HKa : RowKit.Hid (Keep w' (w'.alloc (.cells #[.int .i64 x, .bool true, .int .i64 n.links, .string ⟨n.data.toArray⟩, .map (some (M x))] 70))) := Lib.hid ((Mod.refl _ w').alloc _)
          have hsa : (w'.alloc (.cells #[.int .i64 x, .bool true, .int .i64 n.links, .string ⟨n.data.toArray⟩, .map (some (M x))] 70)).heap.size = w'.heap.size + 1 := by simp
          generalize w'.alloc (.cells #[.int .i64 x, .bool true, .int .i64 n.links, .string ⟨n.data.toArray⟩, .map (some (M x))] 70) = wa at *
          refine (cloneS_any (M x) n.names wa ((Hmap.out Hd.out).mod HKa.out id)).mono ?_
          rintro e wb ⟨rfl, hmb, hkb⟩
          have HMb := Lib.hid hmb
          have HKb := Lib.hid (HKa.out.keep hkb)
          have HBb := Lib.hid (blk_mod hkb HB1.out id)
          have hlb := hmb.lt
          rw [hsa] at HMb hlb
          rw [hsa]
          clear hmb hkb HKa HB1 e4 a0 a1 a2 a3 a4
          have hnx := hxb.1
          have HT5 := Lib.hid (HTn.out.keep HKb.out)
          have e5 : wb.cell? ⟨w'.heap.size, 4, none⟩ = some (.map (some (M x))) := blk_cell HBb.out 4
          have f5 : wb.frozen? ⟨w'.heap.size, 4, none⟩ = false := blk_free HBb.out _ rfl
          have HKc : RowKit.Hid (Keep w' (wb.setCell ⟨w'.heap.size, 4, none⟩ (.map (some (w'.heap.size + 1))))) := Lib.hid (Mod.setCell HKb.out (.inr (Nat.le_refl _)) _)
          have HBc : RowKit.Hid (World.blk (wb.setCell ⟨w'.heap.size, 4, none⟩ (.map (some (w'.heap.size + 1)))) w'.heap.size #[.int .i64 x, .bool true, .int .i64 n.links, .string ⟨n.data.toArray⟩, .map (some (w'.heap.size + 1))] 70) := Lib.hid (blk_set HBb.out 4 _)
          have HMc := Lib.hid (HMb.out.mod (Mod.setCell (Mod.refl (· = w'.heap.size) wb) (p := ⟨w'.heap.size, 4, none⟩) (.inl rfl) (.map (some (w'.heap.size + 1)))) (by omega : ¬ w'.heap.size + 1 = w'.heap.size))
          have e6 : (wb.setCell ⟨w'.heap.size, 4, none⟩ (.map (some (w'.heap.size + 1)))).cell? ⟨w.heap.size + 1, 0, none⟩ = some (.map (some w.heap.size)) := blk_cell (HTn.out.keep HKc.out).tree 0
          have hxn : ∀ y ∈ metT T left, y.num ≠ n.num := fun y hy e => by
            have h1 := (mem_met.1 hy).2
            rw [e, hnx, hlk1.out] at h1; cases h1
          have Hxn := Lib.hid hxn
          have Hnx := Lib.hid hnx
          clear hxn hnx HBb HT5
          go_wp2_with ((at_mapUpdate
                        refine wpList_store_O (HTn.out.of.mod HKc.out id) Tryz.underlying62 Tryz.underlying3 x (by omega) w'.heap.size (by have : (metT T left).length ≤ T.length := List.length_filter_le _ _; simp [addrs]; omega) rfl rfl rfl rfl rfl ?_
                        intro wd hmd hmodd
                        have hmodB : Mod (· = w.heap.size) w' wd := (HKc.out.mono (fun _ _ h => h.elim)).trans hmodd (fun _ _ h => h)
                        rw [← Hnx.out] at hmd
                        have ht6 := tree_add (n0 := n) (a := w'.heap.size) (m := w'.heap.size + 1) HTn.out Hxn.out hmodB (Nat.le_refl _) (by omega) (by omega) (Nat.lt_of_lt_of_le (blk_lt HBc.out) hmodd.size) (fun _ => Nat.lt_of_lt_of_le HMc.out.lt hmodd.size) hmd (by
                          have h := blk_mod hmodd HBc.out (show ¬ w'.heap.size = w.heap.size by omega)
                          have e : cellsN n (w'.heap.size + 1) = #[.int .i64 x, .bool true, .int .i64 n.links, .string ⟨n.data.toArray⟩, .map (some (w'.heap.size + 1))] := by simp [cellsN, Hd.out, Hnx.out]
                          rw [e]; exact h) (fun _ => HMc.out.mod hmodd (by omega))
                        rw [met_step HW.out.sorted Hn.out.1 Hnx.out hlk1.out] at ht6
                        have HT6 := Lib.hid ht6
                        have HK6 : RowKit.Hid (Keep w wd) := Lib.hid (HK'.out.new hmodB (Nat.le_refl _))
                        have Hrg6 := Lib.hid (Hrg1.out.kept (grown_mod hmodB) (by simp; omega) (by simp))
                        have hsd := hmodd.size
                        have hsc := HKc.out.size
                        clear hmd hmodd hmodB ht6))
          simp only [Act.put]
          go_roundw
          case rel =>
            refine ⟨_, cnt', _, _, _, Hrg6.out, HK6.out, HT6.out, Lib.hid fun b hb => ?_, by omega⟩
            by_cases e1 : b = w'.heap.size
            · omega
            · by_cases e2 : b = w'.heap.size + 1 ∧ n.dir = true
              · omega
              · simp only [if_neg e1, if_neg e2] at hb
                exact Hq.out b hb
          case measure =>
            rw [Hrg6.out.left_eq, Hleft.out]
            exact Hlt.out
        | false =>
          rw [hd] at a1 a4
          rw [if_neg (by decide)] at a4
          have Hd := Lib.hid hd
          have hAx := lt_of_cell a4
          have e4 : (w'.alloc (.cells #[.int .i64 x, .bool false, .int .i64 n.links, .string ⟨n.data.toArray⟩, .map none] 70)).cell? ⟨A x, 4, none⟩ = some (.map none) := by
            rw [((Mod.refl (fun _ => False) w').alloc _).cell (p := ⟨A x, 4, none⟩) hAx id]; exact a4
          clear hd
          go_wp2_with fail
          have HB1 : RowKit.Hid (World.blk (w'.alloc (.cells #[.int .i64 x, .bool false, .int .i64 n.links, .string ⟨n.data.toArray⟩, .map none] 70)) w'.heap.size #[.int .i64 x, .bool false, .int .i64 n.links, .string ⟨n.data.toArray⟩, .map none] 70) := Lib.hid (blk_new _ _ _)
          have HKa : RowKit.Hid (Keep w' (w'.alloc (.cells #[.int .i64 x, .bool false, .int .i64 n.links, .string ⟨n.data.toArray⟩, .map none] 70))) := Lib.hid ((Mod.refl _ w').alloc _)
          have hsa : (w'.alloc (.cells #[.int .i64 x, .bool false, .int .i64 n.links, .string ⟨n.data.toArray⟩, .map none] 70)).heap.size = w'.heap.size + 1 := by simp
          generalize w'.alloc (.cells #[.int .i64 x, .bool false, .int .i64 n.links, .string ⟨n.data.toArray⟩, .map none] 70) = wa at *
          refine (cloneN_any wa).mono ?_
          rintro e wb ⟨rfl, hwb⟩
          have HKb : RowKit.Hid (Keep w' wb) := Lib.hid (by rw [hwb]; exact HKa.out)
          have HBb : RowKit.Hid (World.blk wb w'.heap.size #[.int .i64 x, .bool false, .int .i64 n.links, .string ⟨n.data.toArray⟩, .map none] 70) := Lib.hid (by rw [hwb]; exact HB1.out)
          clear hwb HKa HB1 e4 a0 a1 a2 a3 a4
          have hnx := hxb.1
          have HT5 := Lib.hid (HTn.out.keep HKb.out)
          have e5 : wb.cell? ⟨w'.heap.size, 4, none⟩ = some (.map none) := blk_cell HBb.out 4
          have f5 : wb.frozen? ⟨w'.heap.size, 4, none⟩ = false := blk_free HBb.out _ rfl
          have HKc : RowKit.Hid (Keep w' (wb.setCell ⟨w'.heap.size, 4, none⟩ (.map none))) := Lib.hid (Mod.setCell HKb.out (.inr (Nat.le_refl _)) _)
          have HBc : RowKit.Hid (World.blk (wb.setCell ⟨w'.heap.size, 4, none⟩ (.map none)) w'.heap.size #[.int .i64 x, .bool false, .int .i64 n.links, .string ⟨n.data.toArray⟩, .map none] 70) := Lib.hid (blk_set HBb.out 4 _)
          
          have e6 : (wb.setCell ⟨w'.heap.size, 4, none⟩ (.map none)).cell? ⟨w.heap.size + 1, 0, none⟩ = some (.map (some w.heap.size)) := blk_cell (HTn.out.keep HKc.out).tree 0
          have hxn : ∀ y ∈ metT T left, y.num ≠ n.num := fun y hy e => by
            have h1 := (mem_met.1 hy).2
            rw [e, hnx, hlk1.out] at h1; cases h1
          have Hxn := Lib.hid hxn
          have Hnx := Lib.hid hnx
          clear hxn hnx HBb HT5
          go_wp2_with ((at_mapUpdate
                        refine wpList_store_O (HTn.out.of.mod HKc.out id) Tryz.underlying62 Tryz.underlying3 x (by omega) w'.heap.size (by have : (metT T left).length ≤ T.length := List.length_filter_le _ _; simp [addrs]; omega) rfl rfl rfl rfl rfl ?_
                        intro wd hmd hmodd
                        have hmodB : Mod (· = w.heap.size) w' wd := (HKc.out.mono (fun _ _ h => h.elim)).trans hmodd (fun _ _ h => h)
                        rw [← Hnx.out] at hmd
                        have ht6 := tree_add (n0 := n) (a := w'.heap.size) (m := w'.heap.size + 1) HTn.out Hxn.out hmodB (Nat.le_refl _) (by omega) (by omega) (Nat.lt_of_lt_of_le (blk_lt HBc.out) hmodd.size) (fun h => by rw [Hd.out] at h; cases h) hmd (by
                          have h := blk_mod hmodd HBc.out (show ¬ w'.heap.size = w.heap.size by omega)
                          have e : cellsN n (w'.heap.size + 1) = #[.int .i64 x, .bool false, .int .i64 n.links, .string ⟨n.data.toArray⟩, .map none] := by simp [cellsN, Hd.out, Hnx.out]
                          rw [e]; exact h) (fun h => by rw [Hd.out] at h; cases h)
                        rw [met_step HW.out.sorted Hn.out.1 Hnx.out hlk1.out] at ht6
                        have HT6 := Lib.hid ht6
                        have HK6 : RowKit.Hid (Keep w wd) := Lib.hid (HK'.out.new hmodB (Nat.le_refl _))
                        have Hrg6 := Lib.hid (Hrg1.out.kept (grown_mod hmodB) (by simp; omega) (by simp))
                        have hsd := hmodd.size
                        have hsc := HKc.out.size
                        clear hmd hmodd hmodB ht6))
          simp only [Act.put]
          go_roundw
          case rel =>
            refine ⟨_, cnt', _, _, _, Hrg6.out, HK6.out, HT6.out, Lib.hid fun b hb => ?_, by omega⟩
            by_cases e1 : b = w'.heap.size
            · omega
            · by_cases e2 : b = w'.heap.size + 1 ∧ n.dir = true
              · omega
              · simp only [if_neg e1, if_neg e2] at hb
                exact Hq.out b hb
          case measure =>
            rw [Hrg6.out.left_eq, Hleft.out]
            exact Hlt.out
end
end
end Go.Proofs.YthmpblccplphfaaGreatDoor
