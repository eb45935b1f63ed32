/-
  Which nodes make a tree of files: plain Lean, no program here.
  What is laid is laid of one list alone: plain Lean, no program here.
  How often each node is met, of any nodes: files.Tree.met.
-/
import Derived.Test.YthmpblccplphfaaGreatDoorFilIn
import Derived.Test.YthmpblccplphfaaGreatDoorRefParse
namespace Go.Proofs.YthmpblccplphfaaGreatDoor
section
open Go.RowKit
theorem ents_at2 {l : Nm} (h : entsOk l = true) : ∀ p ∈ l, nameOk p.1 = true := by
  rw [entsOk, Bool.and_eq_true] at h
  have key : ∀ (l : Nm) (was : Option (List UInt8)), entsB was l = true → ∀ x ∈ l, nameOk x.1 = true := by
    intro l
    induction l with
    | nil => intro _ _ x hx; cases hx
    | cons y r ih =>
      intro was h x hx
      rw [entsB, Bool.and_eq_true] at h
      rcases List.mem_cons.1 hx with rfl | hx
      · have h1 := h.1
        simp only [entB, Bool.and_eq_true] at h1
        exact h1.1.1.1
      · exact ih _ h.2 x hx
  exact key l none h.2
theorem entsB_sorted : ∀ (l : Nm) (was : Option (List UInt8)), entsB was l = true → SortedN l ∧ ∀ s, was = some s → ∀ p ∈ l, bytesBefore s p.1 = true := by
  intro l
  induction l with
  | nil => intro _ _; exact ⟨List.Pairwise.nil, fun _ _ p hp => by cases hp⟩
  | cons y r ih =>
    intro was h
    rw [entsB, Bool.and_eq_true] at h
    obtain ⟨h2, h3⟩ := ih _ h.2
    have h4 := h3 _ rfl
    refine ⟨List.pairwise_cons.2 ⟨h4, h2⟩, fun s e p hp => ?_⟩
    subst e
    have h1 := h.1
    simp only [entB, Bool.and_eq_true] at h1
    have h5 := h1.1.1.2
    rcases List.mem_cons.1 hp with rfl | hp
    · exact h5
    · exact WideShapes.bytes_trans _ _ _ h5 (h4 p hp)
theorem ents_sortedN {l : Nm} (h : entsOk l = true) : SortedN l := by
  rw [entsOk, Bool.and_eq_true] at h
  exact (entsB_sorted l none h.2).1
/-- all that is named below is there, is no root, and is not too deep -/
def okN (T : Tr) : Nat → Nm → Bool
  | 0, l => l.isEmpty
  | f + 1, l => l.all fun p => (T.get p.2).isSome && (!(p.2 == 1) && (!(dirAt T p.2) || okN T f (namesAt T p.2)))
/-- ways of one name more -/
def nextW (T : Tr) (W : Int → Nat) : Int → Nat := fun k => (T.map fun n => if n.dir = true then W n.num * cntN n.names k else 0).sum
def levW (T : Tr) (W F : Int → Nat) : Nat := (T.map fun n => if n.dir = true then W n.num * F n.num else 0).sum
def iterW (T : Tr) : Nat → (Int → Nat) → Int → Nat
  | 0, W => W
  | i + 1, W => iterW T i (nextW T W)
def sumN (T : Tr) (φ : Int → Nat) : Int → Nat := fun k => ((namesAt T k).map fun p => φ p.2).sum
section
variable {T : Tr}
theorem iterW_succ : ∀ (i : Nat) (W : Int → Nat), iterW T (i + 1) W = nextW T (iterW T i W) := by
  intro i
  induction i with
  | zero => intro W; rfl
  | succ i ih => intro W; exact ih (nextW T W)
theorem levW_next (hs : Sorted T) (W F : Int → Nat) : levW T W (fun k => ((namesAt T k).map fun p => if dirAt T p.2 = true then F p.2 else 0).sum) = levW T (nextW T W) F := by
  unfold levW nextW
  have e1 : ∀ n ∈ T, (if n.dir = true then W n.num * ((namesAt T n.num).map fun p => if dirAt T p.2 = true then F p.2 else 0).sum else 0) = (T.map fun m => (if n.dir = true then W n.num * cntN n.names m.num else 0) * (if m.dir = true then F m.num else 0)).sum := by
    intro n hn
    rw [names_at hs hn, names_sum hs]
    by_cases hc : n.dir = true
    · rw [if_pos hc, Nat.mul_comm, ← sum_times]
      refine sum_same T _ _ fun m _ => ?_
      rw [if_pos hc, Nat.mul_comm, Nat.mul_assoc]
    · rw [if_neg hc]
      exact (sum_zero T _ fun m _ => by rw [if_neg hc, Nat.zero_mul]).symm
  rw [sum_same T _ _ e1, sum_swap]
  refine sum_same T _ _ fun m hm => ?_
  rw [sum_times T (fun n => if n.dir = true then W n.num * cntN n.names m.num else 0)]
  cases hd : m.dir with
  | false => simp
  | true => rw [if_pos rfl, if_pos rfl]
theorem levW_plus (W F G : Int → Nat) : levW T W (fun k => F k + G k) = levW T W F + levW T W G := by
  unfold levW
  rw [← sum_plus]
  refine sum_same T _ _ fun n _ => ?_
  by_cases h : n.dir = true
  · rw [if_pos h, if_pos h, if_pos h, Nat.mul_add]
  · rw [if_neg h, if_neg h, if_neg h]
theorem subT_split (φ : Int → Nat) (f : Nat) : subT T φ (f + 1) = fun k => sumN T φ k + ((namesAt T k).map fun p => if dirAt T p.2 = true then subT T φ f p.2 else 0).sum := by
  funext k
  show ((namesAt T k).map _).sum = _
  unfold sumN
  rw [sum_plus]
theorem levW_sub (hs : Sorted T) (φ : Int → Nat) : ∀ (f : Nat) (W : Int → Nat), levW T W (subT T φ f) = ((List.range f).map fun i => levW T (iterW T i W) (sumN T φ)).sum := by
  intro f
  induction f with
  | zero =>
    intro W
    unfold levW
    exact sum_zero T _ fun n _ => by show (if _ then W n.num * 0 else 0) = 0; simp
  | succ f ih =>
    intro W
    rw [subT_split, levW_plus, levW_next hs, ih, List.range_succ_eq_map, List.map_cons, List.sum_cons, List.map_map]
    rfl
theorem levW_cnt (hs : Sorted T) (W : Int → Nat) (j : Int) : levW T W (sumN T (oneN j)) = nextW T W j := by
  unfold levW nextW
  refine sum_same T _ _ fun n hn => ?_
  by_cases h : n.dir = true
  · rw [if_pos h, if_pos h]
    unfold sumN
    rw [names_at hs hn, cntN_sum]
  · rw [if_neg h, if_neg h]
theorem levW_one (hs : Sorted T) {r : Nd} (hr : T.get 1 = some r) (hd : r.dir = true) (F : Int → Nat) : levW T (oneN 1) F = F 1 := by
  unfold levW
  have h := pick_sum hs 1 fun m => F m.num
  rw [hr] at h
  obtain ⟨_, hn⟩ := (get_iff hs).1 hr
  simp only [hn] at h
  rw [← h]
  refine sum_same T _ _ fun n hm => ?_
  unfold oneN
  by_cases e : n.num = 1
  · have : n = r := num_inj hs hm ((get_iff hs).1 hr).1 (e.trans hn.symm)
    rw [this, hn, if_pos hd]; simp
  · rw [if_neg e, if_neg e]; simp
/-- how often a number is met -/
theorem met_levels (hs : Sorted T) {r : Nd} (hr : T.get 1 = some r) (hd : r.dir = true) (j : Int) : subT T (oneN j) 8 1 = ((List.range 8).map fun i => iterW T (i + 1) (oneN 1) j).sum := by
  rw [← levW_one hs hr hd (subT T (oneN j) 8), levW_sub hs]
  refine sum_same _ _ _ fun i _ => ?_
  rw [levW_cnt hs, iterW_succ]
theorem next_pos {W : Int → Nat} {k : Int} (h : nextW T W k ≠ 0) : ∃ n ∈ T, n.dir = true ∧ W n.num ≠ 0 ∧ ∃ p ∈ n.names, p.2 = k := by
  refine Classical.byContradiction fun hn => h (sum_zero T _ fun n hm => ?_)
  by_cases hd : n.dir = true
  · rw [if_pos hd]
    by_cases hw : W n.num = 0
    · rw [hw, Nat.zero_mul]
    · rw [cntN_zero fun p hp e => hn ⟨n, hm, hd, hw, p, hp, e⟩, Nat.mul_zero]
  · rw [if_neg hd]
theorem next_ge {W : Int → Nat} {n : Nd} (hm : n ∈ T) (hd : n.dir = true) (k : Int) : W n.num * cntN n.names k ≤ nextW T W k := by
  have h := sum_mem (l := T) (g := fun n => if n.dir = true then W n.num * cntN n.names k else 0) hm
  simp only [hd, if_true] at h
  exact h
theorem ok_level (hs : Sorted T) (hok : okN T 8 (namesAt T 1) = true) : ∀ i, i ≤ 8 → ∀ n ∈ T, n.dir = true → iterW T i (oneN 1) n.num ≠ 0 → okN T (8 - i) n.names = true := by
  intro i
  induction i with
  | zero =>
    intro _ n hn _ hw
    have e : n.num = 1 := Classical.byContradiction fun h => hw (by show oneN 1 n.num = 0; unfold oneN; rw [if_neg h])
    rw [← names_at hs hn, e]; exact hok
  | succ i ih =>
    intro hi n hn hd hw
    rw [iterW_succ] at hw
    obtain ⟨m, hm, hmd, hmw, p, hp, e⟩ := next_pos hw
    have h := ih (by omega) m hm hmd hmw
    rw [show 8 - i = (8 - (i + 1)) + 1 by omega] at h
    unfold okN at h
    have h2 := List.all_eq_true.1 h p hp
    have hda : dirAt T p.2 = true := by rw [e]; unfold dirAt; rw [(get_iff hs).2 ⟨hn, rfl⟩]; exact hd
    rw [hda] at h2
    simp only [Bool.not_true, Bool.false_or, Bool.and_eq_true] at h2
    have h3 := h2.2.2
    rw [e, names_at hs hn] at h3
    exact h3
theorem root_level (hs : Sorted T) (hok : okN T 8 (namesAt T 1) = true) : ∀ i, i < 8 → iterW T (i + 1) (oneN 1) 1 = 0 := by
  intro i hi
  refine Classical.byContradiction fun hne => ?_
  rw [iterW_succ] at hne
  obtain ⟨m, hm, hmd, hmw, p, hp, e⟩ := next_pos hne
  have h := ok_level hs hok i (by omega) m hm hmd hmw
  rw [show 8 - i = (7 - i) + 1 by omega] at h
  unfold okN at h
  have h2 := List.all_eq_true.1 h p hp
  rw [e] at h2
  simp at h2
theorem sum_unique {l : List Nat} {g : Nat → Nat} (hn : l.Nodup) (h : (l.map g).sum ≤ 1) {i j : Nat} (hi : i ∈ l) (hj : j ∈ l) (gi : g i ≠ 0) (gj : g j ≠ 0) : i = j := by
  induction l with
  | nil => cases hi
  | cons x r ih =>
    obtain ⟨h1, h2⟩ := List.nodup_cons.1 hn
    rw [List.map_cons, List.sum_cons] at h
    rcases List.mem_cons.1 hi with e1 | hi1
    · rcases List.mem_cons.1 hj with e2 | hj1
      · rw [e1, e2]
      · have := sum_mem (l := r) (g := g) hj1; rw [← e1] at h; omega
    · rcases List.mem_cons.1 hj with e2 | hj1
      · have := sum_mem (l := r) (g := g) hi1; rw [← e2] at h; omega
      · exact ih h2 (by omega) hi1 hj1
theorem sum_pos {l : List Nat} {g : Nat → Nat} (h : (l.map g).sum ≠ 0) : ∃ i ∈ l, g i ≠ 0 := by
  refine Classical.byContradiction fun hn => h (sum_zero l g fun a ha => Classical.byContradiction fun hg => hn ⟨a, ha, hg⟩)
theorem sum_one {l : List Nat} {g : Nat → Nat} (hn : l.Nodup) (h : (l.map g).sum ≤ 1) {i : Nat} (hi : i ∈ l) (gi : g i ≠ 0) : (l.map g).sum = 1 := by
  have := sum_mem (l := l) (g := g) hi; omega
/-- what makes a tree -/
structure Makes (T : Tr) : Prop where
  sorted : Sorted T
  nums : ∀ n ∈ T, 1 ≤ n.num ∧ n.num ≤ 65535
  root : ∃ r, T.get 1 = some r ∧ r.dir = true ∧ r.links = 1
  many : T.length ≤ 60
  reads : ∀ n ∈ T, Reads n
  ok : okN T 8 (namesAt T 1) = true
  count : ∀ n ∈ T, n.num ≠ 1 → (subT T (oneN n.num) 8 1 : Int) = n.links ∧ 1 ≤ n.links
  once : ∀ n ∈ T, n.dir = true → n.num ≠ 1 → subT T (oneN n.num) 8 1 ≤ 1
theorem Makes.level (h : Makes T) {n : Nd} (hn : n ∈ T) : ∃ i, i ≤ 8 ∧ iterW T i (oneN 1) n.num ≠ 0 := by
  obtain ⟨r, hr, hd, _⟩ := h.root
  by_cases e : n.num = 1
  · refine ⟨0, by omega, ?_⟩
    show oneN 1 n.num ≠ 0
    unfold oneN; rw [if_pos e]; omega
  · obtain ⟨h1, h2⟩ := h.count n hn e
    rw [met_levels h.sorted hr hd] at h1
    obtain ⟨i, hi, hg⟩ := sum_pos (l := List.range 8) (g := fun i => iterW T (i + 1) (oneN 1) n.num) (by omega)
    exact ⟨i + 1, by have := List.mem_range.1 hi; omega, hg⟩
theorem Makes.unique (h : Makes T) {n : Nd} (hn : n ∈ T) (hd : n.dir = true) {i j : Nat} (hi : i ≤ 8) (hj : j ≤ 8) (gi : iterW T i (oneN 1) n.num ≠ 0) (gj : iterW T j (oneN 1) n.num ≠ 0) : i = j := by
  obtain ⟨r, hr, hrd, _⟩ := h.root
  by_cases e : n.num = 1
  · rw [e] at gi gj
    have hz : ∀ k, k ≤ 8 → iterW T k (oneN 1) 1 ≠ 0 → k = 0 := fun k hk hg => by
      cases k with
      | zero => rfl
      | succ k => exact absurd (root_level h.sorted h.ok k (by omega)) hg
    rw [hz i hi gi, hz j hj gj]
  · have h1 := h.once n hn hd e
    rw [met_levels h.sorted hr hrd] at h1
    have hz : ∀ k, iterW T k (oneN 1) n.num ≠ 0 → ∃ k', k = k' + 1 := fun k hg => by
      cases k with
      | zero => exact absurd (show oneN 1 n.num = 0 by unfold oneN; rw [if_neg e]) hg
      | succ k => exact ⟨k, rfl⟩
    obtain ⟨i', rfl⟩ := hz i gi
    obtain ⟨j', rfl⟩ := hz j gj
    rw [sum_unique (g := fun i => iterW T (i + 1) (oneN 1) n.num) List.nodup_range h1 (List.mem_range.2 (by omega : i' < 8)) (List.mem_range.2 (by omega : j' < 8)) gi gj]
def depW (T : Tr) (k : Int) : Nat := ((List.range 9).find? fun i => iterW T i (oneN 1) k != 0).getD 0
theorem Makes.dep (h : Makes T) {n : Nd} (hn : n ∈ T) (hd : n.dir = true) {i : Nat} (hi : i ≤ 8) (gi : iterW T i (oneN 1) n.num ≠ 0) : depW T n.num = i := by
  unfold depW
  cases hf : (List.range 9).find? fun i => iterW T i (oneN 1) n.num != 0 with
  | none =>
    rw [List.find?_eq_none] at hf
    exact absurd (by simpa using gi) (hf i (List.mem_range.2 (by omega)))
  | some j =>
    have h1 := List.find?_some hf
    have h2 := List.mem_range.1 (List.mem_of_find?_eq_some hf)
    have h3 : iterW T j (oneN 1) n.num ≠ 0 := by simpa using h1
    exact (h.unique (j := j) hn hd hi (by omega) gi h3).symm
theorem Makes.isDir (h : Makes T) {n : Nd} (hn : n ∈ T) {p : List UInt8 × Int} (hp : p ∈ n.names) : n.dir = true := by
  cases hd : n.dir with
  | true => rfl
  | false => rw [((h.reads n hn).file hd).1] at hp; cases hp
theorem Makes.below (h : Makes T) {n : Nd} (hn : n ∈ T) {p : List UInt8 × Int} (hp : p ∈ n.names) : depW T n.num ≤ 7 ∧ iterW T (depW T n.num) (oneN 1) n.num ≠ 0 ∧ (T.get p.2).isSome = true ∧ p.2 ≠ 1 := by
  have hd := h.isDir hn hp
  obtain ⟨i, hi, gi⟩ := h.level hn
  rw [h.dep hn hd hi gi]
  have h1 := ok_level h.sorted h.ok i hi n hn hd gi
  have h8 : i ≠ 8 := fun e => by
    subst e
    rw [show 8 - 8 = 0 from rfl] at h1
    unfold okN at h1
    rw [List.isEmpty_iff] at h1
    rw [h1] at hp; cases hp
  rw [show 8 - i = (7 - i) + 1 by omega] at h1
  unfold okN at h1
  have h2 := List.all_eq_true.1 h1 p hp
  simp only [Bool.and_eq_true] at h2
  exact ⟨by omega, gi, h2.1, by simpa using h2.2.1⟩
theorem Makes.sumW (h : Makes T) {n : Nd} (hn : n ∈ T) (hne : n.names ≠ []) : ((List.range 8).map fun i => iterW T i (oneN 1) n.num).sum = 1 := by
  obtain ⟨r, hr, hrd, _⟩ := h.root
  obtain ⟨p, hp⟩ := List.exists_mem_of_ne_nil _ hne
  have hd := h.isDir hn hp
  obtain ⟨h7, hg, _⟩ := h.below hn hp
  by_cases e : n.num = 1
  · rw [List.range_succ_eq_map, List.map_cons, List.sum_cons, List.map_map, e]
    rw [show iterW T 0 (oneN 1) 1 = 1 from rfl]
    have : ((List.range 7).map ((fun i => iterW T i (oneN 1) 1) ∘ Nat.succ)).sum = 0 := sum_zero _ _ fun i hi => root_level h.sorted h.ok i (by have := List.mem_range.1 hi; omega)
    omega
  · have h1 := h.once n hn hd e
    rw [met_levels h.sorted hr hrd, List.range_succ, List.map_append, List.sum_append] at h1
    have h2 : ((List.range 8).map fun i => iterW T i (oneN 1) n.num).sum = ((List.range 7).map fun i => iterW T (i + 1) (oneN 1) n.num).sum := by
      rw [List.range_succ_eq_map, List.map_cons, List.sum_cons, List.map_map]
      have h0 : iterW T 0 (oneN 1) n.num = 0 := by show oneN 1 n.num = 0; unfold oneN; rw [if_neg e]
      rw [h0, Nat.zero_add]; rfl
    have h3 := sum_mem (l := List.range 8) (g := fun i => iterW T i (oneN 1) n.num) (List.mem_range.2 (by omega : depW T n.num < 8))
    omega
theorem Makes.cnt (h : Makes T) (j : Int) : cnt T j = subT T (oneN j) 8 1 := by
  obtain ⟨r, hr, hrd, _⟩ := h.root
  rw [met_levels h.sorted hr hrd]
  have e1 : ((List.range 8).map fun i => iterW T (i + 1) (oneN 1) j).sum = ((List.range 8).map fun i => (T.map fun n => (if n.dir = true then iterW T i (oneN 1) n.num * cntN n.names j else 0)).sum).sum :=
    sum_same _ _ _ fun i _ => by rw [iterW_succ]; rfl
  rw [e1, sum_swap]
  unfold Go.Proofs.YthmpblccplphfaaGreatDoor.cnt
  refine sum_same T _ _ fun n hn => ?_
  by_cases hne : n.names = []
  · rw [hne]
    exact (sum_zero _ _ fun i _ => by simp [cntN]).symm
  · obtain ⟨p, hp⟩ := List.exists_mem_of_ne_nil _ hne
    have hd := h.isDir hn hp
    have e2 : ((List.range 8).map fun i => if n.dir = true then iterW T i (oneN 1) n.num * cntN n.names j else 0).sum = ((List.range 8).map fun i => iterW T i (oneN 1) n.num * cntN n.names j).sum :=
      sum_same _ _ _ fun i _ => by rw [if_pos hd]
    rw [e2, sum_times, h.sumW hn hne, Nat.one_mul]
theorem wf_makesT (h : Makes T) : WF T (depW T) where
  sorted := h.sorted
  nums := h.nums
  root := by
    obtain ⟨r, hr, hd, hl⟩ := h.root
    obtain ⟨h1, h2⟩ := (get_iff h.sorted).1 hr
    exact ⟨r, h1, h2, hd, hl⟩
  many := h.many
  file n hn := (h.reads n hn).file
  dirs n hn := (h.reads n hn).dirs
  snames n hn := (h.reads n hn).sorted
  names n hn := ⟨(h.reads n hn).many, fun p hp => (ents_at2 (h.reads n hn).ents p hp)⟩
  closed n hn p hp := by
    obtain ⟨_, _, h1, h2⟩ := h.below hn hp
    obtain ⟨m, hm⟩ := Option.isSome_iff_exists.1 h1
    obtain ⟨h3, h4⟩ := (get_iff h.sorted).1 hm
    exact ⟨h2, m, h3, h4⟩
  count n hn hne := by
    obtain ⟨h1, h2⟩ := h.count n hn hne
    rw [h.cnt]
    refine ⟨by omega, h2, fun hd => ?_⟩
    have := h.once n hn hd hne
    omega
  droot := by
    obtain ⟨r, hr, hd, _⟩ := h.root
    obtain ⟨h1, h2⟩ := (get_iff h.sorted).1 hr
    rw [← h2]
    refine h.dep h1 hd (by omega) ?_
    show oneN 1 r.num ≠ 0
    unfold oneN; rw [if_pos h2]; omega
  deep n hn hne := by
    obtain ⟨p, hp⟩ := List.exists_mem_of_ne_nil _ hne
    exact (h.below hn hp).1
  depth n hn p hp m hm e hmd := by
    obtain ⟨h7, hg, _⟩ := h.below hn hp
    rw [← e]
    refine h.dep hm hmd (by omega) ?_
    rw [iterW_succ]
    have h1 := next_ge (W := iterW T (depW T n.num) (oneN 1)) hn (h.isDir hn hp) m.num
    have h2 : cntN n.names m.num ≠ 0 := fun h0 => by
      unfold cntN at h0
      rw [List.countP_eq_zero] at h0
      exact h0 p hp (by simp [e])
    have h3 := Nat.mul_ne_zero hg h2
    omega
end
end
section
open Go.RowKit
theorem encN_inj {n m : Nat} {a b : List UInt8} (hn : n ≤ 4611686018427387903) (hm : m ≤ 4611686018427387903) (h : encN n ++ a = encN m ++ b) : n = m ∧ a = b := by
  have h1 := rdGo_enc n 0 0 a (fun h => by omega) (by simp only [Nat.reduceSub, Nat.reducePow]; omega) (by omega)
  have h2 := rdGo_enc m 0 0 b (fun h => by omega) (by simp only [Nat.reduceSub, Nat.reducePow]; omega) (by omega)
  rw [h, h2] at h1
  simp at h1
  obtain ⟨e, _⟩ := h1
  subst e
  exact ⟨rfl, List.append_cancel_left h⟩
theorem flat_inj : ∀ (l m : Nm), l.length = m.length → (∀ x ∈ l, x.1.length ≤ 16 ∧ 1 ≤ x.2 ∧ x.2 ≤ 65535) → (∀ x ∈ m, x.1.length ≤ 16 ∧ 1 ≤ x.2 ∧ x.2 ≤ 65535) → l.flatMap encE1 = m.flatMap encE1 → l = m := by
  intro l
  induction l with
  | nil =>
    intro m h _ _ _
    cases m with
    | nil => rfl
    | cons _ _ => cases h
  | cons x r ih =>
    intro m h hl hm he
    cases m with
    | nil => cases h
    | cons y s =>
      rw [List.flatMap_cons, List.flatMap_cons] at he
      have hx := hl x (by simp)
      have hy := hm y (by simp)
      unfold encE1 at he
      simp only [List.append_assoc] at he
      obtain ⟨e1, e2⟩ := encN_inj (by omega) (by omega) he
      obtain ⟨e3, e4⟩ := List.append_inj e2 e1
      obtain ⟨e5, e6⟩ := encN_inj (by omega) (by omega) e4
      have e8 : r.flatMap encE1 = s.flatMap encE1 := by
        have h9 : encE1 = fun p : List UInt8 × Int => encN p.1.length ++ (p.1 ++ encN p.2.toNat) := by funext p; simp [encE1]
        rw [h9]; exact e6
      have e7 := ih s (by simpa using h) (fun p hp => hl p (by simp [hp])) (fun p hp => hm p (by simp [hp])) e8
      rw [e7]
      congr 1
      exact Prod.ext e3 (by omega)
theorem encE_inj {l m : Nm} (hl : entsOk l = true) (hm : entsOk m = true) (h : encE l = encE m) : l = m := by
  have h1 : l.length ≤ 4096 := by rw [entsOk, Bool.and_eq_true, decide_eq_true_eq] at hl; exact hl.1
  have h2 : m.length ≤ 4096 := by rw [entsOk, Bool.and_eq_true, decide_eq_true_eq] at hm; exact hm.1
  unfold encE at h
  obtain ⟨e1, e2⟩ := encN_inj (by omega) (by omega) h
  exact flat_inj l m e1 (ents_all hl) (ents_all hm) e2
theorem told_inj {n m : Nd} (hn : Reads n) (hm : Reads m) (h : n.told = m.told) : n = m := by
  obtain ⟨a1, a2, a3, a4, a5⟩ := n
  obtain ⟨b1, b2, b3, b4, b5⟩ := m
  simp only [Nd.told, Nt.mk.injEq] at h
  obtain ⟨rfl, rfl, rfl, h⟩ := h
  cases a2 with
  | false =>
    have e1 := (hn.file rfl).1
    have e2 := (hm.file rfl).1
    simp only at e1 e2
    simp only [Bool.false_eq_true, if_false] at h
    rw [e1, e2, h]
  | true =>
    have e1 := hn.dirs rfl
    have e2 := hm.dirs rfl
    simp only at e1 e2
    simp only [if_true] at h
    have e3 : a5 = b5 := encE_inj hn.ents hm.ents h
    rw [e1, e2, e3]
theorem toldT_inj : ∀ (T U : Tr), (∀ n ∈ T, Reads n) → (∀ n ∈ U, Reads n) → toldT T = toldT U → T = U := by
  intro T
  induction T with
  | nil =>
    intro U _ _ h
    cases U with
    | nil => rfl
    | cons _ _ => cases h
  | cons x r ih =>
    intro U hT hU h
    cases U with
    | nil => cases h
    | cons y s =>
      have h' : x.told :: toldT r = y.told :: toldT s := h
      injection h' with h1 h2
      rw [told_inj (hT x (by simp)) (hU y (by simp)) h1, ih s (fun n hn => hT n (by simp [hn])) (fun n hn => hU n (by simp [hn])) h2]
/-- nodes that make a tree -/
def FromOk (l : List Nt) : Prop := ∃ T, toldT T = l ∧ Makes T
end
section
open Go.RowKit Go.Maps
/-- nodes as they can be read -/
structure Raw (T : Tr) : Prop where
  sorted : Sorted T
  nums : ∀ n ∈ T, 1 ≤ n.num ∧ n.num ≤ 65535
  reads : ∀ n ∈ T, Reads n
def okP (T : Tr) : Nat → List UInt8 × Int → Bool
  | 0, _ => false
  | f + 1, p => (T.get p.2).isSome && (!(p.2 == 1) && (!(dirAt T p.2) || okN T f (namesAt T p.2)))
theorem okN_all (T : Tr) (f : Nat) (l : Nm) : okN T f l = l.all (okP T f) := by
  cases f with
  | zero => cases l <;> rfl
  | succ f => rfl
/-- directories that were not met -/
def unmet (T : Tr) (C : Int → Nat) : Nat := T.countP fun n => n.dir && C n.num == 0
section
variable {T : Tr}
theorem unmet_mono {C C' : Int → Nat} (h : ∀ j, C j ≤ C' j) : unmet T C' ≤ unmet T C := by
  unfold unmet
  refine List.countP_mono_left fun n _ hn => ?_
  simp only [Bool.and_eq_true, beq_iff_eq] at hn ⊢
  have := h n.num
  exact ⟨hn.1, by omega⟩
theorem unmet_le (T : Tr) (C : Int → Nat) : unmet T C ≤ T.length := List.countP_le_length
theorem unmet_step (hs : Sorted T) {n : Nd} (hn : n ∈ T) (hd : n.dir = true) {C C' : Int → Nat} (h0 : C n.num = 0) (h1 : C' n.num ≠ 0) (he : ∀ j, j ≠ n.num → C' j = C j) : unmet T C' + 1 = unmet T C := by
  unfold unmet
  induction T with
  | nil => cases hn
  | cons y r ih =>
    obtain ⟨h2, h3⟩ := List.pairwise_cons.1 hs
    rw [List.countP_cons, List.countP_cons]
    rcases List.mem_cons.1 hn with rfl | hm
    · have e : List.countP (fun m => m.dir && C' m.num == 0) r = List.countP (fun m => m.dir && C m.num == 0) r := List.countP_congr fun m hm => by
        rw [he m.num (by have := h2 m hm; omega)]
      rw [e, if_neg (by simp [h1]), if_pos (by simp [hd, h0])]
    · have h4 := h2 n hm
      have h5 := ih h3 hm
      rw [he y.num (by omega)]
      omega
theorem ones_sum {α : Type} (l : List α) : (l.map fun _ => 1).sum = l.length := by
  induction l with
  | nil => rfl
  | cons x r ih => rw [List.map_cons, List.sum_cons, ih, List.length_cons]; omega
/-- may all be met? -/
def MetOk (T : Tr) (f : Nat) (k : Int) (C : Int → Nat) : Prop := okN T f (namesAt T k) = true ∧ ∀ j, dirAt T j = true → C j + subT T (oneN j) f k ≤ 1
def MetPost (T : Tr) (w : World) (cb : Nat) (f : Nat) (k : Int) (C : Int → Nat) (s : Nat) (e : Ending) (w' : World) : Prop :=
  ∃ (b : Bool) (C' : Int → Nat) (s' : Nat), e = .returned (.bool b) ∧ CntAt w' cb C' s' ∧ Mod (· = cb) w w' ∧ (∀ j, C j ≤ C' j) ∧ s' + 60 * unmet T C' ≤ s + 60 * unmet T C + 60 ∧ (b = true → MetOk T f k C ∧ ∀ j, C' j = C j + subT T (oneN j) f k) ∧ (b = false → ¬ MetOk T f k C)
theorem subT_names (hs : Sorted T) (φ : Int → Nat) (f : Nat) (k : Int) : subT T φ f k ≤ ((namesAt T k).map fun p => φ p.2 + if dirAt T p.2 = true then subT T φ (f - 1) p.2 else 0).sum ∧ (1 ≤ f → subT T φ f k = ((namesAt T k).map fun p => φ p.2 + if dirAt T p.2 = true then subT T φ (f - 1) p.2 else 0).sum) := by
  cases f with
  | zero => exact ⟨Nat.zero_le _, fun h => by omega⟩
  | succ f => exact ⟨Nat.le_refl _, fun _ => rfl⟩
variable {w : World} {p tb cb : Nat} {A M : Int → Nat} {role : Nat → Role}
set_option maxRecDepth 100000 in
set_option maxHeartbeats 8000000 in
theorem met_gen (hw : Raw T) (hT : T.length ≤ 60) (hcb : role cb = .none) : ∀ (f : Nat) (k : Int) (n : Nd) (w : World) (C : Int → Nat) (s : Nat), TreeAt w p T tb A M role → CntAt w cb C s → T.get k = some n → n.dir = true → f ≤ 100 → (∀ j, dirAt T j = true → C j ≤ 1) → s + 60 * unmet T C ≤ 100000 →
    Calls Tryz.prog 30 #[.pointer (some ⟨p, 0, none⟩), .pointer (some ⟨A k, 0, none⟩), .int .i64 (f : Int), .map (some cb)] w (MetPost T w cb f k C s) := by
  have HW := Lib.hid hw
  have HR := Lib.hid hcb
  clear hw hcb
  intro f
  induction f using Nat.strongRecOn with
  | _ f ih =>
    intro k n w C s h hC hg hd h100 hone hs
    have HT := Lib.hid h
    have HC := Lib.hid hC
    have Hg := Lib.hid hg
    have IH := Lib.hid ih
    have c4 : w.cell? ⟨A k, 4, none⟩ = some (.map (if n.dir = true then some (M k) else none)) := h.cell HW.out.sorted hg 4
    rw [hd, if_pos rfl] at c4
    obtain ⟨hm, hk⟩ := (get_iff HW.out.sorted).1 hg
    have hna : namesAt T k = n.names := by unfold namesAt; rw [hg]
    have Hna := Lib.hid hna
    have hmap := HT.out.names n hm hd
    rw [hk] at hmap
    have Hm := Lib.hid (And.intro hm hk)
    have Hrd := Lib.hid (HW.out.reads n hm)
    have Hmap := Lib.hid hmap
    have Hd := Lib.hid hd
    have Hone := Lib.hid hone
    have Hs := Lib.hid hs
    have hcM : cb ≠ M k := fun e => by
      have := h.rnames n hm hd
      rw [hk, ← e, HR.out] at this; cases this
    have HcM := Lib.hid hcM
    have hclt := hC.lt
    have hMlt := h.lt (M k) (by have := h.rnames n hm hd; rw [hk] at this; rw [this]; exact Role.noConfusion)
    clear h hC hg ih hd hm hk hmap hone hs hcM hna
    go_enter Tryz.func30, Tryz.ntmps30
    go_wp2_with (at_range; refine wpList_range_own _ rfl _ 68 rfl 9 3 (string_keyed Tryz.underlying9) Tryz.underlying68 _ (M k) n.names.length (toN n.names) rfl Hmap.out ?_; intro w0 hrg0 hg0 hs0)
    try go_frame
    have Hrg0 := Lib.hid hrg0
    have HK0 := Lib.hid (keep_grown hg0)
    have HC0 := Lib.hid (HC.out.mod (keep_grown hg0) id)
    clear hrg0 hg0 hs0 c4
    go_loopw [8] (fun v wr => ∃ (left : Lit → Bool) (cnt : Nat) (C' : Int → Nat) (s' : Nat), World.ranges wr Tryz.prog 9 (plainElem Tryz.prog 3) (M k) w.heap.size n.names.length (toN n.names) left cnt ∧ Mod (· = cb) w wr ∧ CntAt wr cb C' s' ∧ v = .bool false ∧ RowKit.Hid ((∀ j, C' j + remS n.names (fun x => left (.string x)) (fun p => oneN j p.2 + if dirAt T p.2 = true then subT T (oneN j) (f - 1) p.2 else 0) = C j + (n.names.map fun p => oneN j p.2 + if dirAt T p.2 = true then subT T (oneN j) (f - 1) p.2 else 0).sum) ∧ s' + remS n.names (fun x => left (.string x)) (fun _ => 1) + 60 * unmet T C' ≤ s + 60 * unmet T C + 60 ∧ (∀ j, C j ≤ C' j) ∧ (∀ j, dirAt T j = true → C' j ≤ 1) ∧ ∀ q ∈ n.names, left (.string q.1) = false → okP T f q = true)) (fun _ wr => wr.rangeLeft (M k) w.heap.size)
    case atStart =>
      refine ⟨_, _, C, s, Hrg0.out, HK0.out.mono (fun _ _ h => h.elim), HC0.out, rfl, Lib.hid ⟨fun j => ?_, ?_, fun j => Nat.le_refl _, Hone.out, fun q hq hl => ?_⟩⟩
      · rw [rem_all _ fun q hq => ?_]
        rw [has_toG str_same, (getG_iff Hrd.out.sorted).2 hq]; rfl
      · rw [rem_all _ fun q hq => ?_]
        · have h6 := Hrd.out.many
          have := ones_sum n.names
          omega
        · rw [has_toG str_same, (getG_iff Hrd.out.sorted).2 hq]; rfl
      · rw [has_toG str_same, (getG_iff Hrd.out.sorted).2 hq] at hl; cases hl
    case round =>
      clear Hrg0 HK0 HC0
      obtain ⟨left, cnt, C', s', hrg, hK, hC, rfl, Hq⟩ := hrel
      have Hrg := Lib.hid hrg
      have HK := Lib.hid hK
      have HC' := Lib.hid hC
      clear hrg hK hC
      go_wp2_with (at_next; refine wpList_next_ranges wr rfl _ rfl 9 (string_keyed Tryz.underlying9) (plainElem Tryz.prog 3) (fun x : List UInt8 => .string ⟨x.toArray⟩) (Value.int .i64) (fun key kl h => by obtain ⟨x, hx, _⟩ := Maps.keyOf_str Tryz.underlying9 h; exact ⟨x, hx⟩) (fun v y h => by obtain ⟨a, ha, _⟩ := plainElem_int_inv Tryz.underlying3 h; exact ⟨a, ha⟩) (M k) w.heap.size _ (toN n.names) left cnt rfl Hrg.out ?_ ?_)
      · intro _ hl0
        have Hl0 := Lib.hid hl0
        have hC2 : ∀ j, C' j = C j + (n.names.map fun p => oneN j p.2 + if dirAt T p.2 = true then subT T (oneN j) (f - 1) p.2 else 0).sum := fun j => by rw [← Hq.out.1 j, rem_none _ fun q _ => hl0 _, Nat.add_zero]
        have HC2 := Lib.hid hC2
        have Hok : RowKit.Hid (MetOk T f k C ∧ ∀ j, C' j = C j + subT T (oneN j) f k) := Lib.hid (by
          have hok : okN T f (namesAt T k) = true := by
            rw [okN_all, Hna.out, List.all_eq_true]
            exact fun q hq => Hq.out.2.2.2.2 q hq (hl0 _)
          have hsub : ∀ j, C' j = C j + subT T (oneN j) f k := fun j => by
            rw [HC2.out j]
            by_cases hf : 1 ≤ f
            · rw [(subT_names HW.out.sorted (oneN j) f k).2 hf, Hna.out]
            · obtain rfl : f = 0 := by omega
              unfold okN at hok
              rw [List.isEmpty_iff, Hna.out] at hok
              rw [hok]; rfl
          exact ⟨⟨hok, fun j hj => by rw [← hsub j]; exact Hq.out.2.2.2.1 j hj⟩, hsub⟩)
        clear hl0 hC2
        go_wp2_with fail
        go_ret
        exact ⟨true, C', s', rfl, HC'.out, HK.out, Hq.out.2.2.1, by have := Hq.out.2.1; omega, fun _ => Hok.out, fun h => by cases h⟩
      · intro x c kl yd yp w' cnt' hkey hlk hv hat hrg1 hlt hg1 hs1 hen
        obtain ⟨x', ex, rfl, _⟩ := Maps.keyOf_str Tryz.underlying9 hkey
        have ex2 : x' = x := by simpa [Go.Proofs.encStr] using ex.symm
        subst ex2
        have hgx := elem_of Tryz.underlying3 hv hat
        have Hin := Lib.hid ((getG_iff Hrd.out.sorted).1 hgx)
        have hnb := ents_all Hrd.out.ents _ Hin.out
        have HM' : RowKit.Hid (Mod (· = cb) w w') := Lib.hid (HK.out.grown hg1 (fun i e => .inr (by injection e with e; omega)))
        have HT' : RowKit.Hid (TreeAt w' p T tb A M role) := Lib.hid (HT.out.mod HM'.out fun b hb e => hb (by rw [e]; exact HR.out))
        have HC1 : RowKit.Hid (CntAt w' cb C' s') := Lib.hid (HC'.out.mod (mod_grown hg1) (by omega))
        have d0 : w'.cell? ⟨p, 0, none⟩ = some (.map (some tb)) := blk_cell HT'.out.tree 0
        have hcb : -9223372036854775808 ≤ c ∧ c ≤ 9223372036854775807 := by have h := hnb.2; omega
        have r1 := MapO.look HT'.out.of Tryz.underlying62 Tryz.underlying3 (zero_node w') c hcb
        rw [addrs_get] at r1
        have r2 := HC1.out.look c hcb
        have hstep : ∀ g, remS n.names (fun x => left (.string x)) g = g (x', c) + remS n.names (fun x => left (.string x) && !(Lit.string x).sameKey (.string x')) g := fun g => rem_step g Hrd.out.sorted Hin.out hlk
        have Hstep := Lib.hid hstep
        have Hrg1 := Lib.hid hrg1
        have Hlt := Lib.hid (show cnt' < cnt from hlt)
        have Hleft := Lib.hid (Hrg.out.left_eq)
        obtain ⟨Cc, hCc⟩ : ∃ Cc, C' c = Cc := ⟨_, rfl⟩
        have HCc := Lib.hid hCc
        rw [hCc] at r2
        have hCs : Cc ≤ s' := by rw [← hCc]; exact HC'.out.le c
        have hs' : s' + 1 ≤ 1000000 := by
          have e := Hq.out.2.1
          rw [hstep] at e
          have h1 := Hs.out
          omega
        -- what a failure shows
        have Hbad : RowKit.Hid (okP T f (x', c) = false → ¬ MetOk T f k C) := Lib.hid fun h1 h2 => by
          have h3 := h2.1
          rw [okN_all, Hna.out, List.all_eq_true] at h3
          rw [h3 _ Hin.out] at h1; cases h1
        have Hlow : RowKit.Hid (∀ j, 1 ≤ f → C' j + (oneN j c + if dirAt T c = true then subT T (oneN j) (f - 1) c else 0) ≤ C j + subT T (oneN j) f k) := Lib.hid fun j hf => by
          have e := Hq.out.1 j
          rw [Hstep.out] at e
          rw [(subT_names HW.out.sorted (oneN j) f k).2 hf, Hna.out]
          simp only at e
          omega
        have Hpot : RowKit.Hid (s' + 1 + remS n.names (fun x => left (.string x) && !(Lit.string x).sameKey (.string x')) (fun _ => 1) + 60 * unmet T C' ≤ s + 60 * unmet T C + 60) := Lib.hid (by
          have e := Hq.out.2.1
          rw [Hstep.out] at e
          omega)
        have Hmon : RowKit.Hid (∀ j, C j ≤ (if j = c then Cc + 1 else C' j)) := Lib.hid fun j => by
          have e := Hq.out.2.2.1 j
          by_cases ej : j = c
          · rw [if_pos ej]; subst ej; rw [HCc.out] at e; omega
          · rw [if_neg ej]; exact e
        have Hmon2 : RowKit.Hid (unmet T (fun j => if j = c then Cc + 1 else C' j) ≤ unmet T C') := Lib.hid (unmet_mono fun j => by
          by_cases ej : j = c
          · show C' j ≤ if j = c then Cc + 1 else C' j
            rw [if_pos ej]; subst ej; rw [HCc.out]; omega
          · show C' j ≤ if j = c then Cc + 1 else C' j
            rw [if_neg ej]; omega)
        clear hkey hlk hv hat hrg1 hlt hg1 hs1 ex hgx hstep hCc hnb
        cases hgc : T.get c with
        | none =>
          rw [hgc] at r1
          simp only [Option.map_none, Option.isSome_none] at r1
          have Hbad2 : RowKit.Hid (¬ MetOk T f k C) := Lib.hid (Hbad.out (by
            cases f with
            | zero => rfl
            | succ f => show ((T.get c).isSome && _) = false; rw [hgc]; rfl))
          clear hgc
          go_wp2_with ((at_mapUpdate
                        refine wpList_store_C HC1.out c (Cc + 1) hcb (by omega) (by omega) rfl rfl rfl rfl rfl ?_
                        intro w2 hc2 hmod2
                        have HC2 := Lib.hid hc2
                        have HM2 := Lib.hid (HM'.out.trans hmod2 (fun _ _ h => h))
                        clear hc2 hmod2 r1 r2 d0))
          go_ret
          exact ⟨false, _, s' + 1, rfl, HC2.out, HM2.out, Hmon.out, by have := Hpot.out; have := Hmon2.out; omega, (fun h => by cases h), fun _ => Hbad2.out⟩
        | some nc =>
          rw [hgc] at r1
          simp only [Option.map_some, Option.isSome_some] at r1
          obtain ⟨hncm, hcn⟩ := (get_iff HW.out.sorted).1 hgc
          rw [hcn] at r1
          have Hgc := Lib.hid hgc
          have Hncm := Lib.hid (And.intro hncm hcn)
          clear hgc hncm hcn
          by_cases hc1 : c = 1
          · subst hc1
            have Hbad2 : RowKit.Hid (¬ MetOk T f k C) := Lib.hid (Hbad.out (by
              cases f with
              | zero => rfl
              | succ f => show ((T.get 1).isSome && (!((1 : Int) == 1) && _)) = false; simp))
            go_wp2_with ((at_mapUpdate
                          refine wpList_store_C HC1.out 1 (Cc + 1) hcb (by omega) (by omega) rfl rfl rfl rfl rfl ?_
                          intro w2 hc2 hmod2
                          have HC2 := Lib.hid hc2
                          have HM2 := Lib.hid (HM'.out.trans hmod2 (fun _ _ h => h))
                          clear hc2 hmod2 r1 r2 d0))
            go_ret
            exact ⟨false, _, s' + 1, rfl, HC2.out, HM2.out, Hmon.out, by have := Hpot.out; have := Hmon2.out; omega, (fun h => by cases h), fun _ => Hbad2.out⟩
          · have hc1' : (c == 1) = false := beq_false_of_ne hc1
            have Hc1 := Lib.hid hc1
            clear hc1
            by_cases hf : f = 0
            · subst hf
              have Hbad2 : RowKit.Hid (¬ MetOk T 0 k C) := Lib.hid (Hbad.out rfl)
              go_wp2_with ((at_mapUpdate
                            refine wpList_store_C HC1.out c (Cc + 1) hcb (by omega) (by omega) rfl rfl rfl rfl rfl ?_
                            intro w2 hc2 hmod2
                            have HC2 := Lib.hid hc2
                            have HM2 := Lib.hid (HM'.out.trans hmod2 (fun _ _ h => h))
                            clear hc2 hmod2 r1 r2 d0))
              go_ret
              exact ⟨false, _, s' + 1, rfl, HC2.out, HM2.out, Hmon.out, by have := Hpot.out; have := Hmon2.out; omega, (fun h => by cases h), fun _ => Hbad2.out⟩
            · have hf1 : 1 ≤ f := by omega
              have hf0 : ((f : Int) == 0) = false := beq_false_of_ne (by omega)
              clear hf
              cases hcd : nc.dir with
              | false =>
                have Hcd := Lib.hid hcd
                have hda : dirAt T c = false := by unfold dirAt; rw [Hgc.out]; exact hcd
                have Hda := Lib.hid hda
                clear hcd hda
                go_wp2_with ((at_mapUpdate
                              refine wpList_store_C HC1.out c (Cc + 1) hcb (by omega) (by omega) rfl rfl rfl rfl rfl ?_
                              intro w2 hc2 hmod2
                              have HC2 := Lib.hid hc2
                              have HT2 : RowKit.Hid (TreeAt w2 p T tb A M role) := Lib.hid (HT'.out.mod hmod2 fun b hb e => hb (by rw [e]; exact HR.out))
                              have HM2 := Lib.hid (HM'.out.trans hmod2 (fun _ _ h => h))
                              have Hrg2 := Lib.hid (Hrg1.out.kept (grown_mod hmod2) (by have := HcM.out; simp; omega) (by simp; omega))
                              have a1 : w2.cell? ⟨A c, 1, none⟩ = some (.bool nc.dir) := HT2.out.cell HW.out.sorted Hgc.out 1
                              rw [Hcd.out] at a1
                              clear hc2 hmod2 r1 r2 d0))
                refine ⟨⟨_, cnt', _, s' + 1, Hrg2.out, HM2.out, HC2.out, rfl, Lib.hid ⟨fun j => ?_, ?_, Hmon.out, fun j hj => ?_, fun q hq hl => ?_⟩⟩, ?_⟩
                · rw [← Hq.out.1 j, Hstep.out]
                  simp only [Hda.out, oneN]
                  by_cases e : j = c
                  · subst e; rw [HCc.out]; simp; omega
                  · rw [if_neg e, if_neg (Ne.symm e)]; simp
                · have := Hpot.out; have := Hmon2.out; omega
                · have ej : j ≠ c := fun e => by rw [e, Hda.out] at hj; cases hj
                  rw [if_neg ej]; exact Hq.out.2.2.2.1 j hj
                · by_cases hql : left (.string q.1) = false
                  · exact Hq.out.2.2.2.2 q hq hql
                  · have e1 : q.1 = x' := by
                      simp only [Bool.and_eq_false_iff, Bool.not_eq_eq_eq_not, Bool.not_false] at hl
                      rcases hl with hl | hl
                      · exact absurd hl hql
                      · exact by have h := WideAt.sameKey_eq hl; injection h
                    have e2 : q = (x', c) := name_inj Hrd.out.sorted hq Hin.out e1
                    rw [e2]
                    obtain ⟨f', rfl⟩ : ∃ f', f = f' + 1 := ⟨f - 1, by omega⟩
                    show ((T.get c).isSome && (!(c == 1) && (!(dirAt T c) || _))) = true
                    rw [Hgc.out, Hda.out, beq_false_of_ne Hc1.out]; rfl
                · rw [Hrg2.out.left_eq, Hleft.out]
                  exact Hlt.out
              | true =>
                have Hcd := Lib.hid hcd
                have hda : dirAt T c = true := by unfold dirAt; rw [Hgc.out]; exact hcd
                have Hda := Lib.hid hda
                clear hcd hda
                by_cases hcc : Cc = 0
                · subst hcc
                  have hfc : ((f - 1 : Nat) : Int) = (f : Int) - 1 := by omega
                  have Hfc := Lib.hid hfc
                  clear hfc
                  go_wp2_with ((at_mapUpdate
                                refine wpList_store_C HC1.out c 1 hcb (by omega) (by omega) rfl rfl rfl rfl rfl ?_
                                intro w2 hc2 hmod2
                                have HC2 := Lib.hid hc2
                                have HT2 : RowKit.Hid (TreeAt w2 p T tb A M role) := Lib.hid (HT'.out.mod hmod2 fun b hb e => hb (by rw [e]; exact HR.out))
                                have HM2 := Lib.hid (HM'.out.trans hmod2 (fun _ _ h => h))
                                have Hrg2 := Lib.hid (Hrg1.out.kept (grown_mod hmod2) (by have := HcM.out; simp; omega) (by simp; omega))
                                have a1 : w2.cell? ⟨A c, 1, none⟩ = some (.bool nc.dir) := HT2.out.cell HW.out.sorted Hgc.out 1
                                rw [Hcd.out] at a1
                                have r3 := HC2.out.look c hcb
                                rw [if_pos rfl] at r3
                                clear hc2 hmod2 r1 r2 d0))
                  rw [← Hfc.out]
                  have hU : unmet T (fun j => if j = c then 1 else C' j) + 1 = unmet T C' := by
                    have h := unmet_step HW.out.sorted Hncm.out.1 Hcd.out (C := C') (C' := fun j => if j = c then 1 else C' j) (by rw [Hncm.out.2]; exact HCc.out) (by rw [Hncm.out.2]; simp) (fun j hj => by rw [Hncm.out.2] at hj; simp [hj])
                    exact h
                  have HU := Lib.hid hU
                  clear hU
                  refine (IH.out (f - 1) (by omega) c nc w2 _ (s' + 1) HT2.out HC2.out Hgc.out Hcd.out (by omega) (fun j hj => ?_) ?_).mono ?_
                  · by_cases e : j = c
                    · rw [if_pos e]; omega
                    · rw [if_neg e]; exact Hq.out.2.2.2.1 j hj
                  · have := Hpot.out; have := HU.out; have := Hs.out; omega
                  rintro e w3 ⟨b, C3, s3, rfl, hc3, hm3, hmo3, hp3, hb1, hb2⟩
                  have HC3 := Lib.hid hc3
                  have HM3 := Lib.hid (HM2.out.trans hm3 (fun _ _ h => h))
                  have Hrg3 := Lib.hid (Hrg2.out.kept (grown_mod hm3) (by have := HcM.out; simp; omega) (by simp; omega))
                  have Hmo3 : RowKit.Hid (∀ j, C j ≤ C3 j) := Lib.hid fun j => Nat.le_trans (Hmon.out j) (hmo3 j)
                  have Hp3 := Lib.hid hp3
                  have Hb1 := Lib.hid hb1
                  have Hb2 := Lib.hid hb2
                  clear hc3 hm3 a1 r3 hmo3 hp3 hb1 hb2
                  cases b with
                  | false =>
                    have Hbad2 : RowKit.Hid (¬ MetOk T f k C) := Lib.hid fun hmk => Hb2.out rfl (by
                      have h3 := hmk.1
                      rw [okN_all, Hna.out, List.all_eq_true] at h3
                      have h4 := h3 _ Hin.out
                      obtain ⟨f', rfl⟩ : ∃ f', f = f' + 1 := ⟨f - 1, by omega⟩
                      have h5 : ((T.get c).isSome && (!(c == 1) && (!(dirAt T c) || okN T f' (namesAt T c)))) = true := h4
                      rw [Hda.out] at h5
                      simp only [Bool.not_true, Bool.false_or, Bool.and_eq_true] at h5
                      refine ⟨h5.2.2, fun j hj => ?_⟩
                      have h6 := Hlow.out j (by omega)
                      rw [Hda.out, if_pos rfl] at h6
                      have h7 := hmk.2 j hj
                      by_cases e : j = c
                      · have e1 : oneN j c = 1 := by unfold oneN; rw [if_pos e.symm]
                        rw [e1] at h6
                        show (if j = c then 1 else C' j) + _ ≤ 1
                        rw [if_pos e]
                        exact Nat.le_trans (by have : f' + 1 - 1 = f' := rfl; rw [this] at h6 ⊢; omega) h7
                      · show (if j = c then 1 else C' j) + _ ≤ 1
                        rw [if_neg e]
                        have : f' + 1 - 1 = f' := rfl
                        rw [this] at h6 ⊢
                        omega)
                    go_wp2_with fail
                    go_ret
                    exact ⟨false, _, s3, rfl, HC3.out, HM3.out, Hmo3.out, by have := Hpot.out; have := Hp3.out; have := HU.out; omega, (fun h => by cases h), fun _ => Hbad2.out⟩
                  | true =>
                    go_wp2_with fail
                    refine ⟨⟨_, cnt', _, s3, Hrg3.out, HM3.out, HC3.out, rfl, Lib.hid ⟨fun j => ?_, ?_, Hmo3.out, fun j hj => ?_, fun q hq hl => ?_⟩⟩, ?_⟩
                    · rw [← Hq.out.1 j, Hstep.out, (Hb1.out trivial).2 j]
                      simp only [Hda.out, oneN, if_true]
                      by_cases e : j = c
                      · subst e; rw [HCc.out]; simp
                      · rw [if_neg e, if_neg (Ne.symm e)]; simp; omega
                    · have := Hpot.out; have := Hp3.out; have := HU.out; omega
                    · rw [(Hb1.out trivial).2 j]
                      exact (Hb1.out trivial).1.2 j hj
                    · by_cases hql : left (.string q.1) = false
                      · exact Hq.out.2.2.2.2 q hq hql
                      · have e1 : q.1 = x' := by
                          simp only [Bool.and_eq_false_iff, Bool.not_eq_eq_eq_not, Bool.not_false] at hl
                          rcases hl with hl | hl
                          · exact absurd hl hql
                          · exact by have h := WideAt.sameKey_eq hl; injection h
                        have e2 : q = (x', c) := name_inj Hrd.out.sorted hq Hin.out e1
                        rw [e2]
                        obtain ⟨f', rfl⟩ : ∃ f', f = f' + 1 := ⟨f - 1, by omega⟩
                        show ((T.get c).isSome && (!(c == 1) && (!(dirAt T c) || okN T f' (namesAt T c)))) = true
                        have h5 : okN T f' (namesAt T c) = true := (Hb1.out trivial).1.1
                        rw [Hgc.out, h5, beq_false_of_ne Hc1.out]; simp
                    · rw [Hrg3.out.left_eq, Hleft.out]
                      exact Hlt.out
                · have hcp : (1 : Int) < (Cc : Int) + 1 := by omega
                  have Hbad2 : RowKit.Hid (¬ MetOk T f k C) := Lib.hid fun hmk => by
                    have h6 := Hlow.out c hf1
                    have h7 := hmk.2 c Hda.out
                    have h8 := HCc.out
                    have e1 : oneN c c = 1 := by unfold oneN; rw [if_pos rfl]
                    rw [e1] at h6
                    omega
                  clear hcc
                  go_wp2_with ((at_mapUpdate
                                refine wpList_store_C HC1.out c (Cc + 1) hcb (by omega) (by omega) rfl rfl rfl rfl rfl ?_
                                intro w2 hc2 hmod2
                                have HC2 := Lib.hid hc2
                                have HT2 : RowKit.Hid (TreeAt w2 p T tb A M role) := Lib.hid (HT'.out.mod hmod2 fun b hb e => hb (by rw [e]; exact HR.out))
                                have HM2 := Lib.hid (HM'.out.trans hmod2 (fun _ _ h => h))
                                have a1 : w2.cell? ⟨A c, 1, none⟩ = some (.bool nc.dir) := HT2.out.cell HW.out.sorted Hgc.out 1
                                rw [Hcd.out] at a1
                                have r3 := HC2.out.look c hcb
                                rw [if_pos rfl] at r3
                                clear hc2 hmod2 r1 r2 d0))
                  go_ret
                  exact ⟨false, _, s' + 1, rfl, HC2.out, HM2.out, Hmon.out, by have := Hpot.out; have := Hmon2.out; omega, (fun h => by cases h), fun _ => Hbad2.out⟩
end
end
end Go.Proofs.YthmpblccplphfaaGreatDoor
