/-
  A tree in memory and the reference's list of nodes: no block is of both.
  What a law needs of the reference's tree beside the program's; a look that came in, opened.
-/
import Derived.Test.YthmpblccplphfaaGreatDoorRefPut
import Derived.Test.YthmpblccplphfaaGreatDoorFilIn
import Derived.Test.YthmpblccplphfaaGreatDoorRefDo
import Derived.Test.YthmpblccplphfaaGreatDoorFilLaid
namespace Go.Proofs.YthmpblccplphfaaGreatDoor
section
open Go.RowKit
section
variable {T : Tr} {w w' : World} {p tb m : Nat} {A M : Int → Nat} {role : Nat → Role} {d : Int → Nat} {l : List Nt}
theorem map_nocell {H : Type} {P : Program} {k : TypeId} {R : Value → Option (DataW H × List MemPlace)} {b n : Nat} {D : DataW H} (h : w.ownsMap P k R b n D) (a : Addr) (ha : a.block = b) : w.cell? a = none := by
  obtain ⟨es, clock, hb, _⟩ := h
  subst ha
  simp [World.cell?, hb]
/-- a tree's blocks, and no more -/
def OfTree (T : Tr) (p tb : Nat) (A M : Int → Nat) (b : Nat) : Prop := b = p ∨ b = tb ∨ ∃ n ∈ T, b = A n.num ∨ (n.dir = true ∧ b = M n.num)
theorem TreeAt.trim (h : TreeAt w p T tb A M role) : ∃ r2, TreeAt w p T tb A M r2 ∧ ∀ b, r2 b ≠ .none → role b ≠ .none ∧ OfTree T p tb A M b := by
  classical
  refine ⟨fun b => if OfTree T p tb A M b then role b else .none, ⟨h.tree, ?_, h.of, ?_, h.node, ?_, h.names, ?_, ?_⟩, ?_⟩
  · rw [if_pos (.inl rfl)]; exact h.rtree
  · rw [if_pos (.inr (.inl rfl))]; exact h.rof
  · intro n hn; rw [if_pos (.inr (.inr ⟨n, hn, .inl rfl⟩))]; exact h.rnode n hn
  · intro n hn hd; rw [if_pos (.inr (.inr ⟨n, hn, .inr ⟨hd, rfl⟩⟩))]; exact h.rnames n hn hd
  · intro b hb
    by_cases hof : OfTree T p tb A M b
    · rw [if_pos hof] at hb; exact h.lt b hb
    · rw [if_neg hof] at hb; exact absurd rfl hb
  · intro b hb
    by_cases hof : OfTree T p tb A M b
    · simp only [if_pos hof] at hb; exact ⟨hb, hof⟩
    · simp only [if_neg hof] at hb; exact absurd rfl hb
/-- a list whose first is a directory that tells something -/
def Rooted (l : List Nt) : Prop := ∃ x r, l = x :: r ∧ x.dir = true ∧ x.data ≠ []
theorem ref_block (h : TreeAt w p T tb A M role) (hw : ∀ n ∈ T, n.dir = true → n.data = []) (hr : RefAt w m l) (hl : Rooted l) {a : Option Addr} {cap : Nat} (hb : World.blk w m #[.slice a l.length cap] 55)
    (hx : ∀ j x, l[j]? = some x → ∃ b o, a = some ⟨b, o, none⟩ ∧ b ≠ m ∧ ∀ i c, (nodeC x)[i]? = some c → w.cell? ⟨b, o + j * 4 + i, none⟩ = some c) :
    ¬ OfTree T p tb A M m ∧ ∃ b o, a = some ⟨b, o, none⟩ ∧ ¬ OfTree T p tb A M b := by
  obtain ⟨x, r, rfl, hxd, hxn⟩ := hl
  have hm := blk_cell hb 0
  obtain ⟨b, o, rfl, hbm, hc⟩ := hx 0 x rfl
  have c0 := hc 0 _ rfl
  have c1 := hc 1 _ rfl
  have c3 := hc 3 _ rfl
  simp only [Nat.zero_mul, Nat.add_zero] at c0 c1 c3
  refine ⟨?_, b, o, rfl, ?_⟩
  · rintro (rfl | rfl | ⟨n, hn, rfl | ⟨hd, rfl⟩⟩)
    · have := blk_cell h.tree 0
      rw [hm] at this; cases this
    · have := map_nocell h.of ⟨m, 0, none⟩ rfl
      rw [hm] at this; cases this
    · have := blk_cell (h.node n hn) 0
      rw [hm] at this; cases this
    · have := map_nocell (h.names n hn hd) ⟨M n.num, 0, none⟩ rfl
      rw [hm] at this; cases this
  · rintro (rfl | rfl | ⟨n, hn, rfl | ⟨hd, rfl⟩⟩)
    · have := blk_cell h.tree o
      rw [c0] at this
      rcases o with _ | o
      · cases this
      · simp at this
    · have := map_nocell h.of ⟨b, o, none⟩ rfl
      rw [c0] at this; cases this
    · have h0 := blk_cell (h.node n hn) o
      have h1 := blk_cell (h.node n hn) (o + 1)
      have h3 := blk_cell (h.node n hn) (o + 3)
      rw [c0] at h0
      rw [c1] at h1
      rw [c3] at h3
      unfold cellsN at h0 h1 h3
      match o, h0, h1, h3 with
      | 0, h0, h1, h3 =>
        have hd : x.dir = n.dir := by
          have e := Option.some.inj h1
          injection e
        rw [hxd] at hd
        have hn0 := hw n hn hd.symm
        have e := Option.some.inj h3
        injection e with e
        rw [hn0] at e
        have e2 : x.data.toArray = #[] := by
          have := congrArg ByteArray.data e
          exact this
        exact hxn (by simpa using e2)
      | 1, h0, h1, h3 => have e := Option.some.inj h0; cases e
      | 2, h0, h1, h3 => have e := Option.some.inj h1; cases e
      | 3, h0, h1, h3 => have e := Option.some.inj h0; cases e
      | 4, h0, h1, h3 => have e := Option.some.inj h0; cases e
      | o + 5, h0, h1, h3 => simp at h0
    · have := map_nocell (h.names n hn hd) ⟨M n.num, o, none⟩ rfl
      rw [c0] at this; cases this
/-- a command turns a tree: the reference's list stays -/
theorem RefAt.beside (hr : RefAt w m l) (hl : Rooted l) (h : TreeAt w p T tb A M role) (hw : ∀ n ∈ T, n.dir = true → n.data = []) (hof : ∀ b, role b ≠ .none → OfTree T p tb A M b) (hm : Mod (fun b => role b ≠ .none) w w') : RefAt w' m l := by
  obtain ⟨a, cap, hb, hx⟩ := hr.row
  obtain ⟨h1, b, o, rfl, h2⟩ := ref_block h hw hr hl hb hx
  refine ⟨⟨some ⟨b, o, none⟩, cap, blk_mod hm hb fun hn => h1 (hof _ hn), fun j x hj => ?_⟩⟩
  obtain ⟨b', o', e, hbm, hc⟩ := hx j x hj
  cases e
  exact ⟨b, o, rfl, hbm, fun i c hi => by rw [hm.cell (p := ⟨b, o + j * 4 + i, none⟩) (lt_of_cell (hc i c hi)) fun hn => h2 (hof _ hn)]; exact hc i c hi⟩
end
end
section
section
open Go.RowKit
section
variable {w0 w w' : World} {p m : Nat} {T T' : Tr} {role : Nat → Role} {d : Int → Nat} {l : List Nt}
theorem encE_ne (l : Nm) : encE l ≠ [] := by
  unfold encE encN
  split <;> simp
theorem rooted_wf (h : WF T d) : Rooted (toldT T) := by
  obtain ⟨r, hr, h1, hd, _⟩ := h.root
  have hs := h.sorted
  have hn := h.nums
  cases T with
  | nil => cases hr
  | cons x rest =>
    have hx : x = r := by
      rcases List.mem_cons.1 hr with e | e
      · exact e.symm
      · have h2 := (List.pairwise_cons.1 hs).1 r e
        have h3 := hn x (List.mem_cons_self ..)
        omega
    subst hx
    refine ⟨x.told, toldT rest, rfl, hd, ?_⟩
    show (if x.dir = true then encE x.names else x.data) ≠ []
    rw [if_pos hd]; exact encE_ne _
theorem TreeIn.trim (h : TreeIn w0 w p T role) : ∃ r2, TreeIn w0 w p T r2 ∧ (∀ b, r2 b ≠ .none → role b ≠ .none) ∧ ∃ tb A M, TreeAt w p T tb A M r2 ∧ ∀ b, r2 b ≠ .none → OfTree T p tb A M b := by
  obtain ⟨tb, A, M, ht⟩ := h.tree
  obtain ⟨r2, h2, h3⟩ := ht.trim
  exact ⟨r2, ⟨⟨tb, A, M, h2⟩, fun b hb => h.since b (h3 b hb).1, h.keep, h.wf⟩, fun b hb => (h3 b hb).1, tb, A, M, h2, fun b hb => (h3 b hb).2⟩
theorem do_beside (h : TreeIn w0 w p T role) (he : Env w0) (c : Cmd) (hc : c.Small) (hr : RefAt w m l) (hl : Rooted l) :
    Calls Tryz.prog 17 #[.pointer (some ⟨p, 0, none⟩), cmdV c] w fun e w' => e = .returned (.int .i64 (doT T c).2) ∧ (∃ role', TreeIn w0 w' p (doT T c).1 role' ∧ Grew w role role') ∧ Mod (fun b => role b ≠ .none) w w' ∧ RefAt w' m l := by
  obtain ⟨r2, h2, hs, tb, A, M, ht, hof⟩ := h.trim
  refine (do_in h2 he c hc).mono ?_
  rintro e w' ⟨rfl, role', h3, g3, m3⟩
  obtain ⟨d, hw⟩ := h.wf
  exact ⟨rfl, ⟨role', h3, fun b hb => (g3 b hb).imp (hs b) id⟩, m3.mono (fun b _ hb => hs b hb), hr.beside hl ht hw.dirs hof m3⟩
theorem rdo_in (h : TreeIn w0 w p T' role) (hm : w0.heap.size ≤ m) (hr : RefAt w m (toldT T)) (hw : WF T d) (c : Cmd) (hc : c.Small) :
    Calls Tryz.prog 23 #[.pointer (some ⟨m, 0, none⟩), cmdV c] w fun e w' => e = .returned (.int .i64 (doT T c).2) ∧ RefAt w' m (toldT (doT T c).1) ∧ ∃ r2, TreeIn w0 w' p T' r2 := by
  obtain ⟨r2, h2, hs, tb, A, M, ht, hof⟩ := h.trim
  refine (rdo_any hr hw c hc).mono ?_
  rintro e w' ⟨rfl, h3, m3⟩
  refine ⟨rfl, h3, r2, h2.mod m3 (fun b hb => ?_) (fun b hb => by subst hb; exact hm)⟩
  subst hb
  obtain ⟨d', hw'⟩ := h.wf
  obtain ⟨a, cap, hb, hx⟩ := hr.row
  exact Classical.byContradiction fun hn => (ref_block ht hw'.dirs hr (rooted_wf hw) hb hx).1 (hof _ hn)
set_option maxRecDepth 100000 in
theorem rnew_any (w : World) : Calls Tryz.prog 21 #[] w fun e w' => ∃ m, e = .returned (.pointer (some ⟨m, 0, none⟩)) ∧ RefAt w' m (toldT Tr.new) ∧ w.heap.size ≤ m ∧ Keep w w' := by
  go_enter Tryz.func21, Tryz.ntmps21
  go_wp2_with fail
  go_ret
  have ht : toldT Tr.new = [⟨1, true, 1, [0]⟩] := by simp [toldT, Tr.new, Nd.told, encE, encN]
  refine ⟨w.heap.size + 1, rfl, ⟨⟨some ⟨w.heap.size, 0, none⟩, 1, ?_, ?_⟩⟩, by omega, ((Mod.refl _ w).alloc _).alloc _⟩
  · rw [ht]
    exact blk_new_at (by simp) _ _
  · rw [ht]
    intro j x hj
    obtain ⟨rfl, rfl⟩ : j = 0 ∧ x = ⟨1, true, 1, [0]⟩ := by
      cases j with
      | zero => simpa using hj.symm
      | succ j => simp at hj
    refine ⟨w.heap.size, 0, rfl, by omega, fun i c hi => ?_⟩
    have hb : World.blk ((w.alloc (.cells #[.int .i64 1, .bool true, .int .i64 1, .string ⟨#[0]⟩] 41)).alloc (.cells #[.slice (some ⟨w.heap.size, 0, none⟩) 1 1] 55)) w.heap.size #[.int .i64 1, .bool true, .int .i64 1, .string ⟨#[0]⟩] 41 := blk_alloc (blk_new _ _ _) _
    rw [show 0 + 0 * 4 + i = i by omega, blk_cell hb i, ← hi]
    simp [nodeC]
theorem own_open {α : Type} {f : α → List Value} {sz : Nat} {t : TypeId} {base : Nat} {v : Value} {l : List α} (h : OwnF f sz t w base v l) (hne : l ≠ []) : ∃ g cap cur, v = .slice (some ⟨g, 0, none⟩) l.length cap ∧ base ≤ g ∧ World.blk w g cur t ∧ l.length ≤ cap ∧ cur.size = cap * sz := by
  rcases h.2 with ⟨_, h3⟩ | ⟨g, cap, cur, rfl, hb, hg, hnc, hm, hsz, htk⟩
  · exact absurd (List.length_eq_zero_iff.1 h3) hne
  · exact ⟨g, cap, cur, rfl, hb, hg, hnc, hsz⟩
theorem RefAt.rowF (h : RefAt w m l) : ∃ a cap, World.blk w m #[.slice a l.length cap] 55 ∧ RowF nodeC 4 w (.slice a l.length cap) l := by
  obtain ⟨a, cap, hb, hx⟩ := h.row
  exact ⟨a, cap, hb, a, cap, rfl, fun j x hj => by
    obtain ⟨b, o, e, _, hc⟩ := hx j x hj
    exact ⟨b, o, e, hc⟩⟩
end
end
section
open Go.ChangeShapes Go.WideShapes Go.Deep Go.RowKit
structure Look where
  path : List UInt8
  i : Int
  n : Int
def lookL (x : Look) : List Value := [.string ⟨x.path.toArray⟩, .int .i64 x.i, .int .i64 x.n]
theorem lookL_len (x : Look) : (lookL x).length = 3 := rfl
structure Look.Small (x : Look) : Prop where
  path : x.path.length < 4294967281
  i : -9223372036854775808 ≤ x.i ∧ x.i ≤ 9223372036854775807
  n : -9223372036854775808 ≤ x.n ∧ x.n ≤ 9223372036854775807
section
variable {H : Type} {enc : TypeId × Value → H}
def lookD (x : Look) : DataW H := .agg [.lit (.string x.path), .lit (.int .i64 x.i), .lit (.int .i64 x.n)]
set_option maxRecDepth 100000 in
theorem open_looks {W : World} {base : Nat} {v : Value} {d : DataW H} {p : List MemPlace} {ds : List (DataW H)} (hok : Value.okWide Tryz.prog W .any base 52 v) (h : DataW.Trod enc Tryz.prog W 0 (fun _ => true) true 52 v d p)
    (hk : Rows.uptoSmall H ds = true) {j : Nat} (hj : ds[j]? = some d) :
    ∃ l : List Look, RowF lookL 3 W v l ∧ l.length ≤ 1048576 ∧ ∀ c ∈ l, c.Small := by
  obtain ⟨a0, len, cap, rfl⟩ := okWide_slice Tryz.underlying52 hok
  obtain ⟨fuel, hf⟩ := h
  have hbulk := bulk_part (List.mem_of_getElem? hj)
  have hb2 : Rows.uptoBulkAll ds ≤ 1048576 := by simpa [Rows.uptoSmall] using hk
  rcases open_slice_fields Tryz.underlying52 Tryz.underlying57 (by kernel_rfl) (by kernel_rfl) hf with ⟨hcs, _⟩ | ⟨a, len', cap', m, D, Pl, hcs, _, hl, hm, hmm, hx, hi⟩
  · simp [Value.cells] at hcs
    obtain ⟨rfl, rfl, rfl⟩ := hcs
    exact ⟨[], ⟨none, 0, rfl, fun j x h => by simp at h⟩, by simp, fun c hc => by cases hc⟩
  · simp [Value.cells] at hcs
    obtain ⟨rfl, rfl, rfl⟩ := hcs
    have hx1 := congrArg Prod.fst hx
    simp only at hx1
    subst hx1
    simp only [if_true] at hmm
    have each : ∀ i, i < len → ∃ c : Look, (∀ k u, (lookL c)[k]? = some u → W.cell? (a.add (i * 3 + k)) = some u) ∧ D i = lookD c ∧ (-9223372036854775808 ≤ c.i ∧ c.i ≤ 9223372036854775807) ∧ (-9223372036854775808 ≤ c.n ∧ c.n ≤ 9223372036854775807) := by
      intro i hil
      obtain ⟨ys, n, hD, _, hyl, hcell⟩ := hi i (by omega)
      obtain ⟨z0, z1, z2, rfl⟩ : ∃ z0 z1 z2, ys = [z0, z1, z2] := by
        have hs : ys.length = 3 := hyl
        match ys, hs with
        | [a, b, c], _ => exact ⟨a, b, c, rfl⟩
      obtain ⟨v0, y0, c0, e0, t0⟩ := hcell 0 _ rfl
      obtain ⟨v1, y1, c1, e1, t1⟩ := hcell 1 _ rfl
      obtain ⟨v2, y2, c2, e2, t2⟩ := hcell 2 _ rfl
      obtain ⟨s0, f0, rfl, _⟩ := DataW.trod_string Tryz.underlying9 t0
      obtain ⟨n1, f1, rfl, w1⟩ := DataW.trod_int Tryz.underlying3 t1
      obtain ⟨n2, f2, rfl, w2⟩ := DataW.trod_int Tryz.underlying3 t2
      injection f0 with f0; injection f1 with f1; injection f2 with f2
      subst f0 f1 f2
      refine ⟨⟨s0.data.toList, n1, n2⟩, fun k u hku => ?_, ?_, i64_of_wf w1, i64_of_wf w2⟩
      · match k, hku with
        | 0, h => cases h; exact c0
        | 1, h => cases h; exact c1
        | 2, h => cases h; exact c2
        | k + 3, h => simp [lookL] at h
      · have q0 := Option.some.inj e0
        have q1 := Option.some.inj e1
        have q2 := Option.some.inj e2
        rw [hD]
        simp only [List.map_cons, List.map_nil, q0, q1, q2]
        rfl
    obtain ⟨g, hg⟩ : ∃ g : Nat → Look, ∀ i, i < len → (∀ k u, (lookL (g i))[k]? = some u → W.cell? (a.add (i * 3 + k)) = some u) ∧ D i = lookD (g i) ∧ (-9223372036854775808 ≤ (g i).i ∧ (g i).i ≤ 9223372036854775807) ∧ (-9223372036854775808 ≤ (g i).n ∧ (g i).n ≤ 9223372036854775807) :=
      ⟨fun i => if hl : i < len then (each i hl).choose else ⟨[], 0, 0⟩, fun i hl => by simp only [dif_pos hl]; exact (each i hl).choose_spec⟩
    have hpart : ∀ i, i < len → Rows.uptoBulk (D i) ≤ 1048576 := fun i hil => by
      have h1 : Rows.uptoBulk (D i) ≤ Rows.uptoBulkAll ((List.range len).map D) := bulk_part (List.mem_map.2 ⟨i, List.mem_range.2 hil, rfl⟩)
      simp only [Rows.uptoBulk] at hbulk
      omega
    have hlen : ∀ (L : List (DataW H)), L.length ≤ Rows.uptoBulkAll L := by
      intro L
      induction L with
      | nil => simp
      | cons x r ih =>
        simp only [Rows.uptoBulkAll, List.length_cons]
        have : 1 ≤ Rows.uptoBulk x := by
          cases x with
          | lit l => cases l <;> simp [Rows.uptoBulk]
          | _ => simp [Rows.uptoBulk]
        omega
    refine ⟨(List.range len).map g, ⟨some a, cap, by simp, fun j x hx => ?_⟩, ?_, fun c hc => ?_⟩
    · have hjl : j < len := by have := (List.getElem?_eq_some_iff.1 hx).1; simpa using this
      have hgx : g j = x := by
        rw [List.getElem?_map, List.getElem?_range hjl] at hx
        exact Option.some.inj hx
      have h1 := (hg j hjl).1
      rw [hgx] at h1
      obtain ⟨b, o, sp⟩ := a
      have hsp : sp = none := spot_none ((hg 0 (by omega)).1 0 _ rfl)
      subst hsp
      refine ⟨b, o, rfl, fun i c hc => ?_⟩
      have h2 := h1 i c hc
      rw [addr_add] at h2
      rw [Nat.add_assoc]; exact h2
    · have h1 := hlen ((List.range len).map D)
      simp only [Rows.uptoBulk] at hbulk
      simp only [List.length_map, List.length_range] at h1 ⊢
      omega
    · obtain ⟨i, hi2, rfl⟩ := List.mem_map.1 hc
      have hil := List.mem_range.1 hi2
      obtain ⟨_, h2, h3, h4⟩ := hg i hil
      have h5 := hpart i hil
      rw [h2] at h5
      have h6 : Rows.uptoBulk (lookD (H := H) (g i)) = (g i).path.length + 1 + (1 + 1) + 1 := by simp [lookD, Rows.uptoBulk, Rows.uptoBulkAll]
      exact ⟨by omega, h3, h4⟩
end
end
end
end Go.Proofs.YthmpblccplphfaaGreatDoor
