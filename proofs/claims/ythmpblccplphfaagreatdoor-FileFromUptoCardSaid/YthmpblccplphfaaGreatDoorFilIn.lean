/-
  files.read: a node as it was told, read.
  How often names name a node, met from the root on; no program here.
  files.met: names are met from a node on, and counted.
  files.From: the nodes of a tree make a tree.
  stillageref14.Same: two rows of nodes; files.From of no nodes.
  A tree that was made since a world: what its functions do, in the terms a law needs.
-/
import Derived.Test.YthmpblccplphfaaGreatDoorFilDo
import Derived.Test.YthmpblccplphfaaGreatDoorTabRead
import Derived.Test.YthmpblccplphfaaGreatDoorFilX
namespace Go.Proofs.YthmpblccplphfaaGreatDoor
section
open Go.RowKit
theorem put_snoc {l : Nm} {x : List UInt8 × Int} (h : ∀ p ∈ l, bytesBefore p.1 x.1 = true) : putG bytesBefore x.1 x.2 l = l ++ [x] := by
  have e : delG x.1 l = l := List.filter_eq_self.2 fun p hp => by
    have := h p hp
    rw [beq_false_of_ne (fun e => by rw [e, WideAt.bytes_irrefl] at this; cases this)]; rfl
  unfold putG
  rw [e]
  clear e
  induction l with
  | nil => rfl
  | cons y r ih =>
    have h1 := h y (by simp)
    unfold insG
    rw [if_neg (fun h2 => by have := WideShapes.bytes_trans _ _ _ h1 h2; rw [WideAt.bytes_irrefl] at this; cases this), ih fun p hp => h p (by simp [hp])]
    rfl
theorem take_put {l : Nm} (hs : SortedN l) {j : Nat} {x : List UInt8 × Int} (hx : l[j]? = some x) : putG bytesBefore x.1 x.2 (l.take j) = l.take (j + 1) := by
  rw [take_snoc hx]
  refine put_snoc fun p hp => ?_
  obtain ⟨i, hi, rfl⟩ := List.getElem_of_mem hp
  rw [List.length_take] at hi
  obtain ⟨hj, rfl⟩ := List.getElem?_eq_some_iff.1 hx
  rw [List.getElem_take]
  exact List.pairwise_iff_getElem.1 hs i j (by omega) hj (by omega)
/-- what a node's text has to be for it to be read -/
structure Reads (n : Nd) : Prop where
  file : n.dir = false → n.names = [] ∧ n.data.length ≤ 16384
  dirs : n.dir = true → n.data = []
  ents : entsOk n.names = true
  sorted : SortedN n.names
  many : n.names.length ≤ 60
theorem WFo.reads {T : Tr} {d : Int → Nat} {off : Int → Int} (hw : WFo T d off) {n : Nd} (hn : n ∈ T) : Reads n :=
  ⟨hw.file n hn, hw.dirs n hn, hw.ents hn, hw.snames n hn, (hw.names n hn).1⟩
theorem encE_small {l : Nm} (h : entsOk l = true) (hm : l.length ≤ 60) : (encE l).length ≤ 16384 := by
  rw [entsOk, Bool.and_eq_true] at h
  have h1 := ents_len _ h.2
  have h2 := encN_9 (n := l.length) (by omega)
  rw [encE, List.length_append]; omega
theorem cells_file {n : Nd} (h : n.dir = false) (m : Nat) : cellsN n m = #[.int .i64 n.num, .bool false, .int .i64 n.links, .string ⟨n.data.toArray⟩, .map none] := by simp [cellsN, h]
theorem cells_dir {n : Nd} (h : n.dir = true) (hd : n.data = []) (m : Nat) : cellsN n m = #[.int .i64 n.num, .bool true, .int .i64 n.links, .string ⟨#[]⟩, .map (some m)] := by simp [cellsN, h, hd]
def ReadPost (w : World) (n : Nd) (e : Ending) (w' : World) : Prop :=
  ∃ a m, e = .returned (.tuple #[.pointer (some ⟨a, 0, none⟩), .bool true]) ∧ w.heap.size ≤ a ∧ w.heap.size ≤ m ∧ m ≠ a ∧ m < w'.heap.size ∧ World.blk w' a (cellsN n m) 70 ∧ (n.dir = true → MapS w' m n.names) ∧ Keep w w'
theorem own_base {w : World} {base m n sz : Nat} {t : TypeId} {b o : Nat} {f : Option Nat} {cap : Nat} {xs : List Value} (h : w.ownsRow base t sz (.slice (some ⟨b, o, f⟩) n cap) m xs) : base ≤ b := by
  rcases h.2 with ⟨hv, _⟩ | ⟨g, cp, cur, hv, hb, _⟩
  · cases hv
  · injection hv with e; injection e with e; injection e with e1; rw [e1]; exact hb
set_option maxRecDepth 100000 in
set_option maxHeartbeats 4000000 in
theorem readn_ok (n : Nd) (hn : Reads n) (w : World) :
    Calls Tryz.prog 29 #[nodeV n.told] w (ReadPost w n) := by
  have HN := Lib.hid hn
  clear hn
  cases hd : n.dir with
  | false =>
    have Ht : RowKit.Hid (n.told = ⟨n.num, false, n.links, n.data⟩) := Lib.hid (by simp [Nd.told, hd])
    rw [Ht.out]
    have hlen := (HN.out.file hd).2
    have h1 : ¬ (16384 : Int) < n.data.length := by omega
    have Hc := Lib.hid (cells_file hd)
    have Hd := Lib.hid hd
    clear hd
    go_enter Tryz.func29, Tryz.ntmps29
    go_wp2_with fail
    go_ret2
    obtain ⟨N, hN⟩ : ∃ N, w.heap.size = N := ⟨_, rfl⟩
    refine ⟨N + 1, N, by rw [← hN]; rfl, by omega, by omega, by omega, by simp; omega, ?_, (fun h => by rw [Hd.out] at h; cases h), ((Mod.refl _ w).alloc _).alloc _⟩
    rw [Hc.out]
    exact blk_new_at (by simp; omega) _ _
  | true =>
    have Ht : RowKit.Hid (n.told = ⟨n.num, true, n.links, encE n.names⟩) := Lib.hid (by simp [Nd.told, hd])
    rw [Ht.out]
    have hlen := encE_small HN.out.ents HN.out.many
    obtain ⟨S, hS⟩ : ∃ S, encE n.names = S := ⟨_, rfl⟩
    have h1 : ¬ (16384 : Int) < S.length := by rw [← hS]; omega
    have Hc := Lib.hid (cells_dir hd (HN.out.dirs hd))
    have HS := Lib.hid hS
    rw [hS]
    have hmm := @run_makeMap Tryz.prog
    clear hd hS hlen
    go_enter Tryz.func29, Tryz.ntmps29
    go_wp2_with fail
    rw [← HS.out]
    refine (parsee_ok n.names HN.out.ents _).mono ?_
    rintro e w1 ⟨v, rfl, ho, hk⟩
    have HX1 : RowKit.Hid (World.blk w1 (w.heap.size + 1) #[.int .i64 n.num, .bool true, .int .i64 n.links, .string ⟨S.toArray⟩, .map none] 70) := Lib.hid (blk_mod hk (by rw [HS.out]; exact blk_new_at (by simp) _ _) id)
    have HR1 := Lib.hid (rowF_own entC_len ho)
    have Hbase : RowKit.Hid (∀ b o f m cap, v = .slice (some ⟨b, o, f⟩) m cap → w.heap.size + 2 ≤ b) := Lib.hid (fun b o f m cap e => by
      subst e
      have := own_base ho
      simpa using this)
    have HK1 := Lib.hid (unalloc (unalloc hk))
    have hsz := blk_lt HX1.out
    clear ho hk
    obtain ⟨a, cap, rfl, hrow⟩ := HR1.out
    have HR2 := Lib.hid hrow
    have hl60 : n.names.length ≤ 60 := HN.out.many
    have hl60' : (n.names.length : Int) ≤ 60 := by omega
    have x3 : w1.frozen? ⟨w.heap.size + 1, 3, none⟩ = false := blk_free HX1.out _ rfl
    have x4 : w1.frozen? ⟨w.heap.size + 1, 4, none⟩ = false := blk_free HX1.out _ rfl
    have y3 : w1.cell? ⟨w.heap.size + 1, 3, none⟩ = some (.string ⟨S.toArray⟩) := blk_cell HX1.out 3
    have y4 : w1.cell? ⟨w.heap.size + 1, 4, none⟩ = some (.map none) := blk_cell HX1.out 4
    clear hrow HR1
    go_wp2_with fail
    have hB : World.blk (((w1.setCell ⟨w.heap.size + 1, 3, none⟩ (.string ⟨#[]⟩)).setCell ⟨w.heap.size + 1, 4, none⟩ (.map (some w1.heap.size))).alloc (.map #[] 0)) (w.heap.size + 1) (cellsN n w1.heap.size) 70 := by
      rw [Hc.out]
      exact blk_alloc (blk_set (blk_set HX1.out 3 _) 4 _) _
    have hm2 : Mod (· = w.heap.size + 1) w1 (((w1.setCell ⟨w.heap.size + 1, 3, none⟩ (.string ⟨#[]⟩)).setCell ⟨w.heap.size + 1, 4, none⟩ (.map (some w1.heap.size))).alloc (.map #[] 0)) := (((Mod.refl (fun x => x = w.heap.size + 1) _).setCell (p := ⟨w.heap.size + 1, 3, none⟩) (.inl rfl) _).setCell (p := ⟨w.heap.size + 1, 4, none⟩) (.inl rfl) _).alloc _
    have HB2 := Lib.hid hB
    have HM2 : RowKit.Hid (MapS (((w1.setCell ⟨w.heap.size + 1, 3, none⟩ (.string ⟨#[]⟩)).setCell ⟨w.heap.size + 1, 4, none⟩ (.map (some w1.heap.size))).alloc (.map #[] 0)) w1.heap.size []) := Lib.hid (MapN.made' (by simp [World.setCell]) ())
    have HK2 := Lib.hid (HK1.out.new hm2 (by omega))
    have HV2 := Lib.hid hm2
    have hsz2 : w1.heap.size < (((w1.setCell ⟨w.heap.size + 1, 3, none⟩ (.string ⟨#[]⟩)).setCell ⟨w.heap.size + 1, 4, none⟩ (.map (some w1.heap.size))).alloc (.map #[] 0)).heap.size := by simp [World.alloc, World.setCell]
    clear hB hm2 x3 x4 y3 y4 hmm HX1 HK1
    generalize (((w1.setCell ⟨w.heap.size + 1, 3, none⟩ (.string ⟨#[]⟩)).setCell ⟨w.heap.size + 1, 4, none⟩ (.map (some w1.heap.size))).alloc (.map #[] 0)) = w2 at *
    go_loopw [42] (fun i wr => ∃ k : Nat, k ≤ n.names.length ∧ i = .int .i64 (k : Int) ∧ Keep w wr ∧ World.blk wr (w.heap.size + 1) (cellsN n w1.heap.size) 70 ∧ MapS wr w1.heap.size (n.names.take k) ∧ Mod (· = w.heap.size + 1) w1 wr ∧ w2.heap.size ≤ wr.heap.size) (fun i _ => n.names.length - (intOf i).toNat)
    case atStart => exact ⟨0, by omega, rfl, HK2.out, HB2.out, HM2.out, HV2.out, Nat.le_refl _⟩
    case round =>
      clear HK2 HB2 HM2 HV2
      obtain ⟨k, hk, rfl, hK, hB, hM, hV, hsz3⟩ := hrel
      have HK := Lib.hid hK
      have HB := Lib.hid hB
      have HM := Lib.hid hM
      have HV := Lib.hid hV
      clear hK hB hM hV
      by_cases hlt : k < n.names.length
      · obtain ⟨x, hx⟩ : ∃ x, n.names[k]? = some x := ⟨_, List.getElem?_eq_getElem hlt⟩
        have Hx := Lib.hid hx
        obtain ⟨b, o, rfl, hc⟩ := HR2.out k x hx
        clear hx
        have c0 : wr.cell? ⟨b, o + k * 2, none⟩ = some (.string ⟨x.1.toArray⟩) := by have h := hc 0 _ rfl; rw [HV.out.cell (p := ⟨b, o + k * 2, none⟩) (lt_of_cell h) (by have := Hbase.out _ _ _ _ _ rfl; simp only; omega)]; exact h
        have c1 : wr.cell? ⟨b, o + k * 2 + 1, none⟩ = some (.int .i64 x.2) := by have h := hc 1 _ rfl; rw [HV.out.cell (p := ⟨b, o + k * 2 + 1, none⟩) (lt_of_cell h) (by have := Hbase.out _ _ _ _ _ rfl; simp only; omega)]; exact h
        have x4 : wr.cell? ⟨w.heap.size + 1, 4, none⟩ = some (.map (some w1.heap.size)) := by rw [blk_cell HB.out 4, Hc.out]; rfl
        have z0 : w.heap.size + 1 < wr.heap.size := blk_lt HB.out
        have hxb := ents_all HN.out.ents x (List.mem_of_getElem? Hx.out)
        clear hc
        go_wp2_with fail
        refine wp_region_qd0 8 (by kernel_rfl) (by kernel_rfl) ?_
        simp only [List.take_succ_cons, List.take_zero, List.drop_succ_cons, List.drop_zero]
        repeat (quiet_step (fail))
        refine wpQuiet_nil ?_
        intro _ hw'
        obtain ⟨nq, rfl⟩ := hw'
        have hkx : Keep wr ((wr.alloc (.cells #[.string ⟨x.1.toArray⟩, .int .i64 x.2] 98)).drewN nq) := ((Mod.refl _ wr).alloc _).drewN nq
        have HM1 := Lib.hid (HM.out.mod hkx id)
        have HB1 := Lib.hid (blk_mod hkx HB.out id)
        have HK1 := Lib.hid (HK.out.keep hkx)
        have HV1 := Lib.hid (HV.out.keep hkx)
        have hsz1 := hkx.size
        clear hkx HM HB HK HV c0 c1 x4
        generalize ((wr.alloc (.cells #[.string ⟨x.1.toArray⟩, .int .i64 x.2] 98)).drewN nq) = wx at *
        go_wp2_with ((at_mapUpdate
                      refine wpList_store_N HM1.out Tryz.underlying68 Tryz.underlying9 Tryz.underlying3 x.1 (by omega) x.2 (by omega) (by rw [List.length_take]; omega) rfl rfl rfl rfl rfl ?_
                      intro w3 hm3 hmod3
                      rw [take_put HN.out.sorted Hx.out] at hm3
                      have HM3 := Lib.hid hm3
                      have HB3 := Lib.hid (blk_mod hmod3 HB1.out (by omega))
                      have HK3 := Lib.hid (HK1.out.new hmod3 (by omega))
                      have HV3 := Lib.hid (HV1.out.new hmod3 (Nat.le_refl _))
                      have hsz4 := hmod3.size
                      clear hm3 hmod3 HM1 HB1 HK1 HV1))
        refine ⟨⟨k + 1, by omega, by go_num, HK3.out, HB3.out, HM3.out, HV3.out, by omega⟩, by simp [intOf]; omega⟩
      · obtain rfl : k = n.names.length := by omega
        rw [List.take_length] at HM
        go_wp2_with fail
        go_ret2
        exact ⟨w.heap.size + 1, w1.heap.size, rfl, by omega, by omega, by omega, by omega, HB.out, fun _ => HM.out, HK.out⟩
end
section
open Go.RowKit
section sums
variable {α β : Type}
theorem sum_plus (l : List α) (g h : α → Nat) : (l.map fun a => g a + h a).sum = (l.map g).sum + (l.map h).sum := by
  induction l with
  | nil => rfl
  | cons x r ih => simp only [List.map_cons, List.sum_cons, ih]; omega
theorem sum_zero (l : List α) (g : α → Nat) (h : ∀ a ∈ l, g a = 0) : (l.map g).sum = 0 := by
  induction l with
  | nil => rfl
  | cons x r ih => rw [List.map_cons, List.sum_cons, h x (by simp), ih fun a ha => h a (by simp [ha])]
theorem sum_same (l : List α) (g h : α → Nat) (e : ∀ a ∈ l, g a = h a) : (l.map g).sum = (l.map h).sum := by rw [List.map_congr_left e]
theorem sum_swap (l : List α) (m : List β) (g : α → β → Nat) : (l.map fun a => (m.map fun b => g a b).sum).sum = (m.map fun b => (l.map fun a => g a b).sum).sum := by
  induction l with
  | nil => rw [List.map_nil, List.sum_nil]; exact (sum_zero m _ fun _ _ => rfl).symm
  | cons x r ih =>
    rw [List.map_cons, List.sum_cons, ih]
    rw [← sum_plus]
    rfl
theorem sum_times (l : List α) (g : α → Nat) (c : Nat) : (l.map fun a => g a * c).sum = (l.map g).sum * c := by
  induction l with
  | nil => simp
  | cons x r ih => simp only [List.map_cons, List.sum_cons, ih, Nat.add_mul]
theorem sum_le (l : List α) (g : α → Nat) (c : Nat) (h : ∀ a ∈ l, g a ≤ c) : (l.map g).sum ≤ l.length * c := by
  induction l with
  | nil => simp
  | cons x r ih =>
    have h1 := h x (by simp)
    have h2 := ih fun a ha => h a (by simp [ha])
    rw [List.map_cons, List.sum_cons, List.length_cons, Nat.add_mul]; omega
theorem sum_mem {l : List α} {g : α → Nat} {a : α} (h : a ∈ l) : g a ≤ (l.map g).sum := by
  induction l with
  | nil => cases h
  | cons x r ih =>
    rw [List.map_cons, List.sum_cons]
    rcases List.mem_cons.1 h with rfl | h
    · omega
    · have := ih h; omega
end sums
def dirAt (T : Tr) (k : Int) : Bool := match T.get k with | some m => m.dir | none => false
def namesAt (T : Tr) (k : Int) : Nm := match T.get k with | some m => m.names | none => []
/-- what is met below a node, to so many names deep -/
def subT (T : Tr) (φ : Int → Nat) : Nat → Int → Nat
  | 0, _ => 0
  | f + 1, k => ((namesAt T k).map fun p => φ p.2 + if dirAt T p.2 = true then subT T φ f p.2 else 0).sum
def oneN (j : Int) : Int → Nat := fun i => if i = j then 1 else 0
theorem cntN_sum (l : Nm) (j : Int) : (l.map fun p => oneN j p.2).sum = cntN l j := by
  induction l with
  | nil => rfl
  | cons x r ih =>
    rw [List.map_cons, List.sum_cons, ih]
    unfold cntN oneN
    rw [List.countP_cons]
    by_cases h : x.2 = j
    · simp [h]; omega
    · simp [h]
theorem cntN_zero {l : Nm} {j : Int} (h : ∀ p ∈ l, p.2 ≠ j) : cntN l j = 0 := by
  unfold cntN
  rw [List.countP_eq_zero]
  intro p hp
  simp [h p hp]
theorem cntN_pos {l : Nm} {j : Int} (h : cntN l j ≠ 0) : ∃ p ∈ l, p.2 = j := by
  refine Classical.byContradiction fun hn => h (cntN_zero fun p hp e => hn ⟨p, hp, e⟩)
section
variable {T : Tr} {d : Int → Nat}
theorem pick_sum (hs : Sorted T) (k : Int) (G : Nd → Nat) : (T.map fun m => if m.num = k then G m else 0).sum = match T.get k with | some m => G m | none => 0 := by
  cases hg : T.get k with
  | none =>
    have h := get_none.1 hg
    exact sum_zero T _ fun m hm => if_neg (h m hm)
  | some n =>
    obtain ⟨hm, hk⟩ := (get_iff hs).1 hg
    clear hg
    show _ = G n
    induction T with
    | nil => cases hm
    | cons y r ih =>
      obtain ⟨h1, h2⟩ := List.pairwise_cons.1 hs
      rw [List.map_cons, List.sum_cons]
      rcases List.mem_cons.1 hm with rfl | hm
      · rw [if_pos hk, sum_zero r _ fun m hm => if_neg (by have : n.num < m.num := h1 m hm; omega)]
        rfl
      · have h3 : y.num < n.num := h1 n hm
        rw [if_neg (by omega), ih h2 hm]; omega
theorem names_sum (hs : Sorted T) (l : Nm) (F : Int → Nat) : (l.map fun p => if dirAt T p.2 = true then F p.2 else 0).sum = (T.map fun m => cntN l m.num * (if m.dir = true then F m.num else 0)).sum := by
  have e1 : ∀ p ∈ l, (if dirAt T p.2 = true then F p.2 else 0) = (T.map fun m => if m.num = p.2 then (if m.dir = true then F m.num else 0) else 0).sum := by
    intro p _
    rw [pick_sum hs p.2 fun m => if m.dir = true then F m.num else 0]
    unfold dirAt
    cases hg : T.get p.2 with
    | none => simp
    | some m => simp [((get_iff hs).1 hg).2]
  rw [sum_same l _ _ e1, sum_swap]
  refine sum_same T _ _ fun m _ => ?_
  rw [← cntN_sum, ← sum_times]
  refine sum_same l _ _ fun p _ => ?_
  unfold oneN
  by_cases h : m.num = p.2
  · rw [if_pos h, if_pos h.symm]; omega
  · rw [if_neg h, if_neg (fun e => h e.symm)]; omega
def lev (T : Tr) (d : Int → Nat) (i : Nat) (F : Int → Nat) : Nat := (T.map fun n => if n.dir = true ∧ d n.num = i then F n.num else 0).sum
theorem names_at (hs : Sorted T) {n : Nd} (hn : n ∈ T) : namesAt T n.num = n.names := by
  unfold namesAt
  rw [(get_iff hs).2 ⟨hn, rfl⟩]
theorem lev_next (h : WF T d) (i : Nat) (F : Int → Nat) : lev T d i (fun k => ((namesAt T k).map fun p => if dirAt T p.2 = true then F p.2 else 0).sum) = lev T d (i + 1) F := by
  unfold lev
  have e1 : ∀ n ∈ T, (if n.dir = true ∧ d n.num = i then ((namesAt T n.num).map fun p => if dirAt T p.2 = true then F p.2 else 0).sum else 0) = (T.map fun m => (if n.dir = true ∧ d n.num = i then cntN n.names m.num else 0) * (if m.dir = true then F m.num else 0)).sum := by
    intro n hn
    rw [names_at h.sorted hn, names_sum h.sorted]
    by_cases hc : n.dir = true ∧ d n.num = i
    · rw [if_pos hc]
      exact sum_same T _ _ fun m _ => by rw [if_pos hc]
    · rw [if_neg hc]
      exact (sum_zero T _ fun m _ => by rw [if_neg hc, Nat.zero_mul]).symm
  rw [sum_same T _ _ e1, sum_swap]
  refine sum_same T _ _ fun m hm => ?_
  rw [sum_times T (fun n => if n.dir = true ∧ d n.num = i then cntN n.names m.num else 0)]
  cases hd : m.dir with
  | false => simp
  | true =>
    rw [if_pos rfl]
    by_cases hi : d m.num = i + 1
    · rw [if_pos ⟨rfl, hi⟩]
      have e2 : (T.map fun n => if n.dir = true ∧ d n.num = i then cntN n.names m.num else 0).sum = cnt T m.num := by
        refine sum_same T _ _ fun n hn => ?_
        by_cases hc : n.dir = true ∧ d n.num = i
        · rw [if_pos hc]
        · rw [if_neg hc]
          refine Eq.symm (Classical.byContradiction fun hne => hc ?_)
          obtain ⟨p, hp, e⟩ := cntN_pos hne
          have h1 := h.depth n hn p hp m hm e.symm hd
          refine ⟨?_, by rw [e] at h1; omega⟩
          cases hnd : n.dir with
          | true => rfl
          | false => rw [(h.file n hn hnd).1] at hp; cases hp
      have h1 : m.num ≠ 1 := fun e => by rw [e, h.droot] at hi; cases hi
      obtain ⟨c1, c2, c3⟩ := h.count m hm h1
      have c4 := c3 hd
      rw [e2, show cnt T m.num = 1 by omega, Nat.one_mul]
    · rw [if_neg (fun hh => hi hh.2), sum_zero T _ fun n hn => ?_, Nat.zero_mul]
      by_cases hc : n.dir = true ∧ d n.num = i
      · rw [if_pos hc]
        refine cntN_zero fun p hp e => hi ?_
        have h1 := h.depth n hn p hp m hm e.symm hd
        rw [e] at h1; omega
      · rw [if_neg hc]
theorem lev_sub (h : WF T d) (φ : Int → Nat) : ∀ (f i : Nat), lev T d i (subT T φ f) = (T.map fun n => if n.dir = true ∧ i ≤ d n.num ∧ d n.num < i + f then (n.names.map fun p => φ p.2).sum else 0).sum := by
  intro f
  induction f with
  | zero =>
    intro i
    unfold lev
    refine sum_same T _ _ fun n _ => ?_
    rw [if_neg (by omega : ¬ (n.dir = true ∧ i ≤ d n.num ∧ d n.num < i + 0))]
    show (if _ then 0 else 0) = 0
    simp
  | succ f ih =>
    intro i
    have e1 : lev T d i (subT T φ (f + 1)) = lev T d i (fun k => ((namesAt T k).map fun p => φ p.2).sum) + lev T d i (fun k => ((namesAt T k).map fun p => if dirAt T p.2 = true then subT T φ f p.2 else 0).sum) := by
      unfold lev
      rw [← sum_plus]
      refine sum_same T _ _ fun n _ => ?_
      by_cases hc : n.dir = true ∧ d n.num = i
      · rw [if_pos hc, if_pos hc, if_pos hc, ← sum_plus]; rfl
      · rw [if_neg hc, if_neg hc, if_neg hc]
    rw [e1, lev_next h, ih]
    unfold lev
    rw [← sum_plus]
    refine sum_same T _ _ fun n hn => ?_
    simp only [names_at h.sorted hn]
    cases hd : n.dir with
    | false => simp
    | true =>
      by_cases h1 : d n.num = i
      · rw [if_pos ⟨rfl, h1⟩, if_neg (by omega), if_pos ⟨rfl, by omega, by omega⟩]; rfl
      · rw [if_neg (fun hh => h1 hh.2)]
        by_cases h2 : i + 1 ≤ d n.num ∧ d n.num < i + 1 + f
        · rw [if_pos ⟨rfl, h2⟩, if_pos ⟨rfl, by omega, by omega⟩]; omega
        · rw [if_neg (fun hh => h2 hh.2), if_neg (fun hh => by obtain ⟨_, a, b⟩ := hh; omega)]
theorem sub_all (h : WF T d) (φ : Int → Nat) : subT T φ 8 1 = (T.map fun n => (n.names.map fun p => φ p.2).sum).sum := by
  obtain ⟨r, hr, hr1, hrd, _⟩ := h.root
  have e0 : lev T d 0 (subT T φ 8) = subT T φ 8 1 := by
    have e : ∀ n ∈ T, (if n.dir = true ∧ d n.num = 0 then subT T φ 8 n.num else 0) = if n.num = 1 then subT T φ 8 1 else 0 := by
      intro n hn
      by_cases h1 : n.num = 1
      · have : n = r := num_inj h.sorted hn hr (h1.trans hr1.symm)
        rw [if_pos h1, h1, if_pos ⟨by rw [this]; exact hrd, h.droot⟩]
      · rw [if_neg h1, if_neg]
        rintro ⟨hd, hz⟩
        obtain ⟨c1, c2, _⟩ := h.count n hn h1
        have : cnt T n.num ≠ 0 := by omega
        refine this (cnt_zero fun m hm p hp e => ?_)
        have := h.depth m hm p hp n hn e.symm hd
        rw [e, hz] at this
        omega
    unfold lev
    rw [sum_same T _ _ e, pick_sum h.sorted 1 fun _ => subT T φ 8 1]
    rw [(get_iff h.sorted).2 ⟨hr, hr1⟩]
  rw [← e0, lev_sub h]
  refine sum_same T _ _ fun n hn => ?_
  by_cases hc : n.dir = true ∧ 0 ≤ d n.num ∧ d n.num < 0 + 8
  · rw [if_pos hc]
  · rw [if_neg hc]
    have : n.names = [] := Classical.byContradiction fun hne => hc ⟨by
      cases hnd : n.dir with
      | true => rfl
      | false => exact absurd (h.file n hn hnd).1 hne, by omega, by have := h.deep n hn hne; omega⟩
    rw [this]; rfl
theorem sub_cnt (h : WF T d) (j : Int) : subT T (oneN j) 8 1 = cnt T j := by
  rw [sub_all h]
  exact sum_same T _ _ fun n _ => cntN_sum _ _
theorem sub_len (h : WF T d) : subT T (fun _ => 1) 8 1 ≤ 3600 := by
  rw [sub_all h]
  have h1 : ∀ n ∈ T, (n.names.map fun _ => 1).sum ≤ 60 := fun n hn => by
    have h2 := sum_le n.names (fun _ => 1) 1 (fun _ _ => Nat.le_refl _)
    have h3 := (h.names n hn).1
    omega
  have h2 := sum_le T (fun n => (n.names.map fun _ => 1).sum) 60 h1
  have h3 := h.many
  omega
end
/-- what is left of a range over names -/
def remS (l : Nm) (left : List UInt8 → Bool) (g : List UInt8 × Int → Nat) : Nat := ((l.filter fun q => left q.1).map g).sum
theorem rem_all {l : Nm} {left : List UInt8 → Bool} (g : List UInt8 × Int → Nat) (h : ∀ q ∈ l, left q.1 = true) : remS l left g = (l.map g).sum := by
  unfold remS
  rw [List.filter_eq_self.2 h]
theorem rem_none {l : Nm} {left : List UInt8 → Bool} (g : List UInt8 × Int → Nat) (h : ∀ q ∈ l, left q.1 = false) : remS l left g = 0 := by
  unfold remS
  rw [List.filter_eq_nil_iff.2 fun q hq => by rw [h q hq]; exact Bool.false_ne_true]; rfl
theorem rem_step {l : Nm} {left : List UInt8 → Bool} (g : List UInt8 × Int → Nat) (hs : SortedN l) {x : List UInt8 × Int} (hx : x ∈ l) (hl : left x.1 = true) : remS l left g = g x + remS l (fun s => left s && !(s == x.1)) g := by
  unfold remS
  induction l with
  | nil => cases hx
  | cons y r ih =>
    obtain ⟨h1, h2⟩ := List.pairwise_cons.1 hs
    rcases List.mem_cons.1 hx with rfl | hx
    · have e1 : (x :: r).filter (fun q => left q.1) = x :: r.filter fun q => left q.1 := List.filter_cons_of_pos (p := fun q : List UInt8 × Int => left q.1) hl
      have e2 : (x :: r).filter (fun q => left q.1 && !(q.1 == x.1)) = r.filter fun q => left q.1 && !(q.1 == x.1) := List.filter_cons_of_neg (p := fun q : List UInt8 × Int => left q.1 && !(q.1 == x.1)) (by simp)
      rw [e1, e2, List.map_cons, List.sum_cons]
      congr 3
      refine List.filter_congr fun q hq => ?_
      have h3 := h1 q hq
      rw [beq_false_of_ne (fun e => by rw [e, WideAt.bytes_irrefl] at h3; cases h3)]
      simp
    · have h3 := h1 x hx
      have hne : (y.1 == x.1) = false := beq_false_of_ne (fun e => by rw [e, WideAt.bytes_irrefl] at h3; cases h3)
      have h4 := ih h2 hx
      simp only [] at h4
      rw [List.filter_cons, List.filter_cons]
      simp only [hne, Bool.not_false, Bool.and_true]
      by_cases hy : left y.1 = true
      · rw [if_pos hy, if_pos hy, List.map_cons, List.map_cons, List.sum_cons, List.sum_cons, h4]; omega
      · rw [if_neg hy, if_neg hy, h4]
end
section
open Go.RowKit Go.Maps
theorem getG_ins {β : Type} {lt : Int → Int → Bool} {k j : Int} {v : β} {l : List (Int × β)} (h : ∀ p ∈ l, p.1 ≠ k) : getG j (insG lt (k, v) l) = if j = k then some v else getG j l := by
  unfold getG
  induction l with
  | nil =>
    by_cases e : j = k
    · subst e; simp [insG]
    · rw [if_neg e]
      simp [insG, Ne.symm e]
  | cons y r ih =>
    have h1 := h y (by simp)
    have ih := ih fun p hp => h p (by simp [hp])
    unfold insG
    split
    · by_cases e : j = k
      · subst e; simp
      · rw [if_neg e, List.find?_cons_of_neg (by simpa using Ne.symm e)]
    · by_cases e : y.1 = j
      · rw [List.find?_cons_of_pos (by simpa using e), List.find?_cons_of_pos (by simpa using e), if_neg (by omega)]
      · rw [List.find?_cons_of_neg (by simpa using e), List.find?_cons_of_neg (by simpa using e), ih]
theorem getG_del {β : Type} {k j : Int} {l : List (Int × β)} (h : j ≠ k) : getG j (delG k l) = getG j l := by
  unfold getG delG
  induction l with
  | nil => rfl
  | cons y r ih =>
    rw [List.filter_cons]
    by_cases e : y.1 = k
    · rw [if_neg (by simpa using e), List.find?_cons_of_neg (by simp; omega), ih]
    · rw [if_pos (by simpa using e)]
      by_cases e2 : y.1 = j
      · rw [List.find?_cons_of_pos (by simpa using e2), List.find?_cons_of_pos (by simpa using e2)]
      · rw [List.find?_cons_of_neg (by simpa using e2), List.find?_cons_of_neg (by simpa using e2), ih]
theorem getG_put {β : Type} {lt : Int → Int → Bool} {k j : Int} {v : β} {l : List (Int × β)} : getG j (putG lt k v l) = if j = k then some v else getG j l := by
  unfold putG
  rw [getG_ins fun p hp => by simpa [delG] using (List.mem_filter.1 hp).2]
  by_cases e : j = k
  · rw [if_pos e, if_pos e]
  · rw [if_neg e, if_neg e, getG_del e]
abbrev ltI : Int → Int → Bool := fun a b => decide (a < b)
def MapC (w : World) (b : Nat) (l : List (Int × Int)) : Prop := w.ownsMap Tryz.prog 3 (plainElem Tryz.prog 3) b l.length (toG (Lit.int .i64) litI l)
structure CntAt (w : World) (b : Nat) (C : Int → Nat) (s : Nat) : Prop where
  get : ∃ l : List (Int × Int), MapC w b l ∧ l.length ≤ s ∧ ∀ j, (getG j l).getD 0 = (C j : Int)
  le : ∀ j, C j ≤ s
section
variable {w w' : World} {b s : Nat} {C : Int → Nat}
theorem CntAt.mod (h : CntAt w b C s) {S : Nat → Prop} (m : Mod S w w') (hS : ¬ S b) : CntAt w' b C s := by
  obtain ⟨⟨l, h1, h2⟩, h3⟩ := h
  exact ⟨⟨l, owns_mod h1 m hS, h2⟩, h3⟩
theorem CntAt.lt (h : CntAt w b C s) : b < w.heap.size := by
  obtain ⟨⟨l, h1, h2⟩, h3⟩ := h
  exact World.ownsMap.lt h1
theorem CntAt.look (h : CntAt w b C s) (k : Int) (hk : -9223372036854775808 ≤ k ∧ k ≤ 9223372036854775807) : (Instr.lookup 71 (.map (some b)) (.int .i64 k) false).run Tryz.prog w = .ok (.int .i64 (C k : Int)) w := by
  obtain ⟨⟨l, h1, h2, h4⟩, h3⟩ := h
  obtain ⟨v, ps, hrun, hv⟩ := World.ownsMap.lookup h1 (int_keyed Tryz.underlying3) Tryz.underlying71 (zero_int w) (plainElem_int Tryz.underlying3 (wf64 (by decide))) (int_key Tryz.underlying3 k hk)
  rw [at_toG int_same] at hv
  obtain ⟨a, rfl, hc, _⟩ := plainElem_int_inv Tryz.underlying3 hv
  have e : a = (getG k l).getD 0 := by
    cases hg : getG k l with
    | none => rw [hg] at hc; simp at hc; simp [hc]
    | some x => rw [hg] at hc; simp [litI] at hc; simp [hc]
  rw [hrun, ← h4 k, e]
set_option maxRecDepth 100000 in
theorem CntAt.store (h : CntAt w b C s) (k : Int) (v : Nat) (hk : -9223372036854775808 ≤ k ∧ k ≤ 9223372036854775807) (hv : v ≤ s + 1) (hs : s ≤ 1000000) :
    ∃ w', (Instr.mapUpdate 71 (.map (some b)) (.int .i64 k) (.int .i64 (v : Int))).run Tryz.prog w = .ok () w' ∧ CntAt w' b (fun j => if j = k then v else C j) (s + 1) ∧ Mod (· = b) w w' := by
  obtain ⟨⟨l, h1, h2, h4⟩, h3⟩ := h
  obtain ⟨w', hrun, hown, ht'⟩ := World.ownsMap.store h1 (int_keyed Tryz.underlying3) Tryz.underlying71 (by unfold maxLen; omega) (int_key Tryz.underlying3 k hk) (plainElem_int Tryz.underlying3 (wf64 (k := (v : Int)) (by omega)))
  refine ⟨w', hrun, ⟨⟨putG ltI k (v : Int) l, ?_, ?_, fun j => ?_⟩, fun j => ?_⟩, mod_grown ht'.grown⟩
  · have h5 := tight hown
    have e : (toG (Lit.int .i64) litI l).put (.int .i64 k) (.lit (.int .i64 (v : Int))) = toG (Lit.int .i64) litI (putG ltI k (v : Int) l) := put_toG (ef := litI) int_same int_before k (v : Int) l
    rw [e, size_toG] at h5
    exact h5
  · have := insG_len (lt := ltI) (k, (v : Int)) (delG k l)
    have := delG_len k l
    unfold putG; omega
  · rw [getG_put]
    by_cases e : j = k
    · rw [if_pos e, if_pos e]; rfl
    · rw [if_neg e, if_neg e]; exact h4 j
  · by_cases e : j = k
    · rw [if_pos e]; exact hv
    · rw [if_neg e]; have := h3 j; omega
theorem CntAt.made (w : World) : CntAt (w.alloc (.map #[] 0)) w.heap.size (fun _ => 0) 0 :=
  ⟨⟨[], World.ownsMap_made w _ _ _, Nat.le_refl _, fun _ => rfl⟩, fun _ => Nat.le_refl _⟩
theorem CntAt.same {C' : Int → Nat} {s' : Nat} (h : CntAt w b C s) (e : ∀ j, C j = C' j) (e2 : s = s') : CntAt w b C' s' := by
  have : C = C' := funext e
  subst this; subst e2; exact h
end
theorem wpList_store_C {w : World} {b s : Nat} {C : Int → Nat} {ops : Array Oper} {rest : List Oper} {o : Oper} {a : Act} {Q : Exit → Act → World → Prop} {m x v : Operand} (hmap : CntAt w b C s) (k : Int) (n : Nat) (hk : -9223372036854775808 ≤ k ∧ k ≤ 9223372036854775807) (hn : n ≤ s + 1) (hs : s ≤ 1000000)
    (hgd : o.guard = none) (ho : o.op = Op.mapUpdate 71 m x v) (hm : a.eval m = .map (some b)) (hx : a.eval x = .int .i64 k) (hv : a.eval v = .int .i64 (n : Int))
    (h : ∀ w', CntAt w' b (fun j => if j = k then n else C j) (s + 1) → Mod (· = b) w w' → wpList Tryz.prog ops Q rest (a.put o.dst undef) w') : wpList Tryz.prog ops Q (o :: rest) a w := by
  obtain ⟨w', hrun, h1, h2⟩ := CntAt.store hmap k n hk hn hs
  exact wpList_update_run hrun hgd ho hm hx hv (h w' h1 h2)
section
variable {p tb cb : Nat} {T : Tr} {A M : Int → Nat} {role : Nat → Role} {d : Int → Nat}
set_option maxRecDepth 100000 in
set_option maxHeartbeats 4000000 in
theorem met_any (hw : WF T d) (hcb : role cb = .none) : ∀ (f : Nat) (k : Int) (n : Nd) (w : World) (C : Int → Nat) (s : Nat), TreeAt w p T tb A M role → CntAt w cb C s → T.get k = some n → n.dir = true → f ≤ 100 → 8 ≤ d k + f → (∀ j, dirAt T j = true → C j + subT T (oneN j) f k ≤ 1) → s + subT T (fun _ => 1) f k ≤ 1000000 →
    Calls Tryz.prog 30 #[.pointer (some ⟨p, 0, none⟩), .pointer (some ⟨A k, 0, none⟩), .int .i64 (f : Int), .map (some cb)] w fun e w' => e = .returned (.bool true) ∧ CntAt w' cb (fun j => C j + subT T (oneN j) f k) (s + subT T (fun _ => 1) f k) ∧ Mod (· = cb) w w' := by
  have HW := Lib.hid hw
  have HR := Lib.hid hcb
  clear hw hcb
  intro f
  induction f using Nat.strongRecOn with
  | _ f ih =>
    intro k n w C s h hC hg hd h100 h8 hone hs
    have HT := Lib.hid h
    have HC := Lib.hid hC
    have Hg := Lib.hid hg
    have IH := Lib.hid ih
    have c4 : w.cell? ⟨A k, 4, none⟩ = some (.map (if n.dir = true then some (M k) else none)) := h.cell HW.out.sorted hg 4
    rw [hd, if_pos rfl] at c4
    obtain ⟨hm, hk⟩ := (get_iff HW.out.sorted).1 hg
    have hsub : ∀ φ, subT T φ f k = (n.names.map fun p => φ p.2 + if dirAt T p.2 = true then subT T φ (f - 1) p.2 else 0).sum := fun φ => by
      cases f with
      | zero =>
        have : n.names = [] := Classical.byContradiction fun hne => by have := HW.out.deep n hm hne; rw [hk] at this; omega
        rw [this]; rfl
      | succ f =>
        have := names_at HW.out.sorted hm
        rw [hk] at this
        show ((namesAt T k).map _).sum = _
        rw [this]; rfl
    have hmap := HT.out.names n hm hd
    rw [hk] at hmap
    have Hm := Lib.hid (And.intro hm hk)
    have Hmap := Lib.hid hmap
    have Hd := Lib.hid hd
    have Hsub := Lib.hid hsub
    have H8 := Lib.hid h8
    have Hone := Lib.hid hone
    have Hs := Lib.hid hs
    have hcM : cb ≠ M k := fun e => by
      have := h.rnames n hm hd
      rw [hk, ← e, HR.out] at this; cases this
    have HcM := Lib.hid hcM
    have hclt := hC.lt
    have hMlt := h.lt (M k) (by have := h.rnames n hm hd; rw [hk] at this; rw [this]; exact Role.noConfusion)
    clear h hC hg ih hd hm hk hsub hmap h8 hone hs hcM
    go_enter Tryz.func30, Tryz.ntmps30
    go_wp2_with (at_range; refine wpList_range_own _ rfl _ 68 rfl 9 3 (string_keyed Tryz.underlying9) Tryz.underlying68 _ (M k) n.names.length (toN n.names) rfl Hmap.out ?_; intro w0 hrg0 hg0 hs0)
    try go_frame
    have Hrg0 := Lib.hid hrg0
    have HK0 := Lib.hid (keep_grown hg0)
    have HC0 := Lib.hid (HC.out.mod (keep_grown hg0) id)
    clear hrg0 hg0 hs0 c4
    go_loopw [8] (fun v wr => ∃ (left : Lit → Bool) (cnt : Nat) (C' : Int → Nat) (s' : Nat), World.ranges wr Tryz.prog 9 (plainElem Tryz.prog 3) (M k) w.heap.size n.names.length (toN n.names) left cnt ∧ Mod (· = cb) w wr ∧ CntAt wr cb C' s' ∧ v = .bool false ∧ RowKit.Hid ((∀ j, C' j + remS n.names (fun x => left (.string x)) (fun p => oneN j p.2 + if dirAt T p.2 = true then subT T (oneN j) (f - 1) p.2 else 0) = C j + subT T (oneN j) f k) ∧ s' + remS n.names (fun x => left (.string x)) (fun p => 1 + if dirAt T p.2 = true then subT T (fun _ => 1) (f - 1) p.2 else 0) = s + subT T (fun _ => 1) f k)) (fun _ wr => wr.rangeLeft (M k) w.heap.size)
    case atStart =>
      refine ⟨_, _, C, s, Hrg0.out, HK0.out.mono (fun _ _ h => h.elim), HC0.out, rfl, Lib.hid ⟨fun j => ?_, ?_⟩⟩
      · rw [rem_all _ fun q hq => ?_, Hsub.out]
        rw [has_toG str_same, (getG_iff (HW.out.snames n Hm.out.1)).2 hq]; rfl
      · rw [rem_all _ fun q hq => ?_, Hsub.out]
        rw [has_toG str_same, (getG_iff (HW.out.snames n Hm.out.1)).2 hq]; rfl
    case round =>
      clear Hrg0 HK0 HC0
      obtain ⟨left, cnt, C', s', hrg, hK, hC, rfl, Hq⟩ := hrel
      have Hrg := Lib.hid hrg
      have HK := Lib.hid hK
      have HC' := Lib.hid hC
      clear hrg hK hC
      go_wp2_with (at_next; refine wpList_next_ranges wr rfl _ rfl 9 (string_keyed Tryz.underlying9) (plainElem Tryz.prog 3) (fun x : List UInt8 => .string ⟨x.toArray⟩) (Value.int .i64) (fun key kl h => by obtain ⟨x, hx, _⟩ := Maps.keyOf_str Tryz.underlying9 h; exact ⟨x, hx⟩) (fun v y h => by obtain ⟨a, ha, _⟩ := plainElem_int_inv Tryz.underlying3 h; exact ⟨a, ha⟩) (M k) w.heap.size _ (toN n.names) left cnt rfl Hrg.out ?_ ?_)
      · intro _ hl0
        have HC2 : RowKit.Hid (CntAt wr cb (fun j => C j + subT T (oneN j) f k) (s + subT T (fun _ => 1) f k)) := Lib.hid (HC'.out.same (fun j => by rw [← Hq.out.1 j, rem_none _ fun q _ => hl0 _, Nat.add_zero]) (by rw [← Hq.out.2, rem_none _ fun q _ => hl0 _, Nat.add_zero]))
        clear hl0
        go_wp2_with fail
        go_ret
        exact ⟨rfl, HC2.out, HK.out⟩
      · intro x c kl yd yp w' cnt' hkey hlk hv hat hrg1 hlt hg1 hs1 hen
        obtain ⟨x', ex, rfl, _⟩ := Maps.keyOf_str Tryz.underlying9 hkey
        have ex2 : x' = x := by simpa [Go.Proofs.encStr] using ex.symm
        subst ex2
        have hgx := elem_of Tryz.underlying3 hv hat
        have Hin := Lib.hid ((getG_iff (HW.out.snames n Hm.out.1)).1 hgx)
        obtain ⟨hc1, nc, hnc, hcn⟩ := HW.out.closed n Hm.out.1 _ Hin.out
        have Hgc := Lib.hid ((get_iff HW.out.sorted).2 ⟨hnc, hcn⟩)
        have HM' : RowKit.Hid (Mod (· = cb) w w') := Lib.hid (HK.out.grown hg1 (fun i e => .inr (by injection e with e; omega)))
        have HT' : RowKit.Hid (TreeAt w' p T tb A M role) := Lib.hid (HT.out.mod HM'.out fun b hb e => hb (by rw [e]; exact HR.out))
        have HC1 : RowKit.Hid (CntAt w' cb C' s') := Lib.hid (HC'.out.mod (mod_grown hg1) (by omega))
        have d0 : w'.cell? ⟨p, 0, none⟩ = some (.map (some tb)) := blk_cell HT'.out.tree 0
        have hcb := (node_num HW.out Hgc.out).2
        have r1 := MapO.look HT'.out.of Tryz.underlying62 Tryz.underlying3 (zero_node w') c hcb
        rw [addrs_at Hgc.out HW.out.sorted] at r1
        simp only [Option.map_some, Option.isSome_some] at r1
        have r2 := HC1.out.look c hcb
        have h7 := HW.out.deep n Hm.out.1 (List.ne_nil_of_mem Hin.out)
        rw [Hm.out.2] at h7
        have hf1 : 1 ≤ f := by have := H8.out; omega
        have hstep : ∀ g, remS n.names (fun x => left (.string x)) g = g (x', c) + remS n.names (fun x => left (.string x) && !(Lit.string x).sameKey (.string x')) g := fun g => rem_step g (HW.out.snames n Hm.out.1) Hin.out hlk
        have Hstep := Lib.hid hstep
        have Hrg1 := Lib.hid hrg1
        have Hlt := Lib.hid (show cnt' < cnt from hlt)
        have Hleft := Lib.hid (Hrg.out.left_eq)
        obtain ⟨Cc, hCc⟩ : ∃ Cc, C' c = Cc := ⟨_, rfl⟩
        have HCc := Lib.hid hCc
        rw [hCc] at r2
        have hCs : Cc ≤ s' := by rw [← hCc]; exact HC'.out.le c
        have hs' : s' + 1 ≤ 1000000 := by
          have e := Hq.out.2
          rw [hstep] at e
          have := Hs.out
          simp only at e
          omega
        have hf0 : ((f : Int) == 0) = false := beq_false_of_ne (by omega)
        have hc1' : (c == 1) = false := beq_false_of_ne hc1
        clear hc1
        have hd8 : nc.dir = true → d c = d k + 1 := fun hcd => by
          have := HW.out.depth n Hm.out.1 _ Hin.out nc hnc hcn hcd
          rw [Hm.out.2] at this
          exact this
        have Hd8 := Lib.hid hd8
        clear hkey hlk hv hat hrg1 hlt hg1 hs1 ex hgx hnc hcn h7 hstep hCc hd8
        cases hcd : nc.dir with
        | false =>
          have Hcd := Lib.hid hcd
          have hda : dirAt T c = false := by unfold dirAt; rw [Hgc.out]; exact hcd
          clear hcd
          go_wp2_with ((at_mapUpdate
                        refine wpList_store_C HC1.out c (Cc + 1) hcb (by omega) (by omega) rfl rfl rfl rfl rfl ?_
                        intro w2 hc2 hmod2
                        have HC2 := Lib.hid hc2
                        have HT2 : RowKit.Hid (TreeAt w2 p T tb A M role) := Lib.hid (HT'.out.mod hmod2 fun b hb e => hb (by rw [e]; exact HR.out))
                        have HM2 := Lib.hid (HM'.out.trans hmod2 (fun _ _ h => h))
                        have Hrg2 := Lib.hid (Hrg1.out.kept (grown_mod hmod2) (by have := HcM.out; simp; omega) (by simp; omega))
                        have a1 : w2.cell? ⟨A c, 1, none⟩ = some (.bool nc.dir) := HT2.out.cell HW.out.sorted Hgc.out 1
                        rw [Hcd.out] at a1
                        clear hc2 hmod2 r1 r2 d0))
          refine ⟨⟨_, cnt', _, s' + 1, Hrg2.out, HM2.out, HC2.out, rfl, Lib.hid ⟨fun j => ?_, ?_⟩⟩, ?_⟩
          · rw [← Hq.out.1 j, Hstep.out]
            simp only [hda, oneN]
            by_cases e : j = c
            · subst e; rw [HCc.out]; simp; omega
            · rw [if_neg e, if_neg (Ne.symm e)]; simp
          · rw [← Hq.out.2, Hstep.out]
            simp only [hda]
            simp; omega
          · rw [Hrg2.out.left_eq, Hleft.out]
            exact Hlt.out
        | true =>
          have Hcd := Lib.hid hcd
          have hda : dirAt T c = true := by unfold dirAt; rw [Hgc.out]; exact hcd
          have Hda := Lib.hid hda
          have hc0 : Cc = 0 := by
            have e1 := Hone.out c hda
            have e2 := Hq.out.1 c
            rw [Hstep.out] at e2
            have e3 := HCc.out
            simp only [hda, oneN, if_true] at e2 e1
            omega
          subst hc0
          have hfc : ((f - 1 : Nat) : Int) = (f : Int) - 1 := by omega
          have Hfc := Lib.hid hfc
          clear hcd hda hfc
          go_wp2_with ((at_mapUpdate
                        refine wpList_store_C HC1.out c 1 hcb (by omega) (by omega) rfl rfl rfl rfl rfl ?_
                        intro w2 hc2 hmod2
                        have HC2 := Lib.hid hc2
                        have HT2 : RowKit.Hid (TreeAt w2 p T tb A M role) := Lib.hid (HT'.out.mod hmod2 fun b hb e => hb (by rw [e]; exact HR.out))
                        have HM2 := Lib.hid (HM'.out.trans hmod2 (fun _ _ h => h))
                        have Hrg2 := Lib.hid (Hrg1.out.kept (grown_mod hmod2) (by have := HcM.out; simp; omega) (by simp; omega))
                        have a1 : w2.cell? ⟨A c, 1, none⟩ = some (.bool nc.dir) := HT2.out.cell HW.out.sorted Hgc.out 1
                        rw [Hcd.out] at a1
                        have r3 := HC2.out.look c hcb
                        rw [if_pos rfl] at r3
                        clear hc2 hmod2 r1 r2 d0))
          rw [← Hfc.out]
          refine (IH.out (f - 1) (by omega) c nc w2 _ _ HT2.out HC2.out Hgc.out Hcd.out (by omega) (by have := Hd8.out Hcd.out; have := H8.out; omega) (fun j hj => ?_) ?_).mono ?_
          · have e1 := Hone.out j hj
            rw [← Hq.out.1 j, Hstep.out] at e1
            simp only [Hda.out, if_true, oneN] at e1 ⊢
            by_cases e : j = c
            · subst e; simp at e1 ⊢; omega
            · rw [if_neg e]; omega
          · have e1 := Hs.out
            rw [← Hq.out.2, Hstep.out] at e1
            simp only [Hda.out, if_true] at e1
            omega
          rintro e w3 ⟨rfl, hc3, hm3⟩
          have HC3 := Lib.hid hc3
          have HM3 := Lib.hid (HM2.out.trans hm3 (fun _ _ h => h))
          have Hrg3 := Lib.hid (Hrg2.out.kept (grown_mod hm3) (by have := HcM.out; simp; omega) (by simp; omega))
          clear hc3 hm3 a1 r3
          go_wp2_with fail
          refine ⟨⟨_, cnt', _, _, Hrg3.out, HM3.out, HC3.out, rfl, Lib.hid ⟨fun j => ?_, ?_⟩⟩, ?_⟩
          · rw [← Hq.out.1 j, Hstep.out]
            simp only [Hda.out, oneN, if_true]
            by_cases e : j = c
            · subst e; rw [HCc.out]; simp
            · rw [if_neg e, if_neg (Ne.symm e)]; simp; omega
          · rw [← Hq.out.2, Hstep.out]
            simp only [Hda.out, if_true]
            omega
          · rw [Hrg3.out.left_eq, Hleft.out]
            exact Hlt.out
end
end
section
open Go.RowKit Go.Maps
theorem add_snoc {T : Tr} {n : Nd} (h : ∀ m ∈ T, m.num < n.num) : Tr.add n T = T ++ [n] := by
  induction T with
  | nil => rfl
  | cons y r ih =>
    have h1 := h y (by simp)
    show (if n.num < y.num then _ else _) = _
    rw [if_neg (by omega), ih fun m hm => h m (by simp [hm])]; rfl
theorem sorted_lt {T : Tr} (hs : Sorted T) {i j : Nat} {a b : Nd} (ha : T[i]? = some a) (hb : T[j]? = some b) (h : i < j) : a.num < b.num := by
  obtain ⟨hi, rfl⟩ := List.getElem?_eq_some_iff.1 ha
  obtain ⟨hj, rfl⟩ := List.getElem?_eq_some_iff.1 hb
  exact List.pairwise_iff_getElem.1 hs i j hi hj h
theorem take_add {T : Tr} (hs : Sorted T) {k : Nat} {x : Nd} (hx : T[k]? = some x) : Tr.add x (T.take k) = T.take (k + 1) := by
  rw [take_snoc hx]
  refine add_snoc fun m hm => ?_
  obtain ⟨i, hi⟩ := List.mem_iff_getElem?.1 hm
  rw [List.getElem?_take] at hi
  split at hi
  · exact sorted_lt hs hi hx (by omega)
  · cases hi
theorem ptr_of {l : List (Int × Nat)} {x : Int} {c : Option Addr} {yd : DataW Value} {yp : List MemPlace} (hv : ptrElem (.pointer c) = some (yd, yp)) (hat : ∀ zd, (toO l).atKey (.int .i64 x) zd = yd) : ∃ a, getG x l = some a ∧ c = some ⟨a, 0, none⟩ := by
  have e : DataW.held (.pointer c) = yd := by
    unfold ptrElem at hv
    injection hv with h; injection h
  subst e
  have h1 := (at_toG (ef := litP) int_same x l (litI 0)).symm.trans (hat (litI 0))
  cases hg : getG x l with
  | none => rw [hg] at h1; cases h1
  | some a =>
    rw [hg] at h1
    refine ⟨a, rfl, ?_⟩
    simp [litP] at h1
    exact h1.symm
theorem inv_ptr (v : Value) (y : DataW Value × List MemPlace) (h : ptrElem v = some y) : ∃ c, v = Value.pointer c := by
  cases v <;> simp [ptrElem] at h
  exact ⟨_, rfl⟩
theorem inv_int (key : Value) (kl : Lit) (h : keyOf Tryz.prog 3 key = some kl) : ∃ x, key = Value.int .i64 x := by
  obtain ⟨x, hx, _⟩ := Maps.keyOf_int_inv Tryz.underlying3 h
  exact ⟨x, hx⟩
theorem tree_none {w : World} {p tb : Nat} (h1 : World.blk w p #[.map (some tb)] 64) (h2 : MapP w tb []) (h3 : p ≠ tb) : TreeAt w p [] tb (fun _ => 0) (fun _ => 0) (fun b => if b = p then .tree else if b = tb then .of else .none) where
  tree := h1
  rtree := if_pos rfl
  of := h2
  rof := by rw [if_neg (Ne.symm h3), if_pos rfl]
  node n hn := by cases hn
  rnode n hn := by cases hn
  names n hn := by cases hn
  rnames n hn := by cases hn
  lt b hb := by
    by_cases e : b = p
    · rw [e]; exact blk_lt h1
    · by_cases e2 : b = tb
      · rw [e2]; exact h2.lt
      · rw [if_neg e, if_neg e2] at hb; exact absurd rfl hb
section
variable {T : Tr} {d : Int → Nat}
def FromPost (w : World) (T : Tr) (e : Ending) (w' : World) : Prop :=
  ∃ p tb A M role, e = .returned (.tuple #[.pointer (some ⟨p, 0, none⟩), .int .i64 0]) ∧ TreeAt w' p T tb A M role ∧ (∀ b, role b ≠ .none → w.heap.size ≤ b) ∧ Keep w w'
set_option maxRecDepth 100000 in
set_option maxHeartbeats 8000000 in
theorem from_any (hw : WF T d) (v : Value) (w : World) (hrow : RowF nodeC 4 w v (toldT T)) : Calls Tryz.prog 11 #[v] w (FromPost w T) := by
  obtain ⟨av, cap, rfl, hrow⟩ := hrow
  have hlen : (toldT T).length = T.length := by simp [toldT]
  rw [hlen]
  have HW := Lib.hid hw
  have HR := Lib.hid hrow
  have hmm := @run_makeMap Tryz.prog
  have h60 := hw.many
  have h60i : (T.length : Int) ≤ 60 := by omega
  clear hw hrow hlen
  go_enter Tryz.func11, Tryz.ntmps11
  go_wp2_with fail
  have HT0 : RowKit.Hid (TreeAt ((w.alloc (.map #[] 0)).alloc (.cells #[.map (some w.heap.size)] 64)) (w.heap.size + 1) [] w.heap.size (fun _ => 0) (fun _ => 0) (fun b => if b = w.heap.size + 1 then .tree else if b = w.heap.size then .of else .none)) := Lib.hid (tree_none (blk_new_at (by simp) _ _) ((MapO.made w).mod ((Mod.refl (fun _ => False) _).alloc _) id) (by omega))
  have HK0 : RowKit.Hid (Keep w ((w.alloc (.map #[] 0)).alloc (.cells #[.map (some w.heap.size)] 64))) := Lib.hid (((Mod.refl _ w).alloc _).alloc _)
  generalize ((w.alloc (.map #[] 0)).alloc (.cells #[.map (some w.heap.size)] 64)) = w0 at *
  go_loopw [5, 20] (fun m i wr => ∃ (k : Nat) (mm : Int) (A M : Int → Nat) (role : Nat → Role), k ≤ T.length ∧ i = .int .i64 (k : Int) ∧ m = .int .i64 mm ∧ Keep w wr ∧ TreeAt wr (w.heap.size + 1) (T.take k) w.heap.size A M role ∧ RowKit.Hid ((∀ b, role b ≠ .none → w.heap.size ≤ b) ∧ 0 ≤ mm ∧ mm ≤ 65535 ∧ ∀ j n, k ≤ j → T[j]? = some n → mm < n.num)) (fun _ i _ => T.length - (intOf i).toNat)
  case atStart =>
    refine ⟨0, 0, _, _, _, by omega, rfl, rfl, HK0.out, HT0.out, Lib.hid ⟨fun b hb => ?_, by omega, by omega, fun j n _ hn => ?_⟩⟩
    · by_cases e : b = w.heap.size + 1
      · omega
      · by_cases e2 : b = w.heap.size
        · omega
        · simp only [if_neg e, if_neg e2] at hb; exact absurd rfl hb
    · have := HW.out.nums n (List.mem_of_getElem? hn); omega
  case round =>
    clear HK0 HT0
    obtain ⟨k, mm, A, M, role, hk, rfl, rfl, hK, hT, Hq⟩ := hrel
    have HK := Lib.hid hK
    have HT := Lib.hid hT
    clear hK hT
    by_cases hlt : k < T.length
    · obtain ⟨x, hx⟩ : ∃ x, T[k]? = some x := ⟨_, List.getElem?_eq_getElem hlt⟩
      have Hx := Lib.hid hx
      obtain ⟨b, o, rfl, hc⟩ := HR.out k x.told (by simp [toldT, hx])
      have c0 : wr.cell? ⟨b, o + k * 4, none⟩ = some (.int .i64 x.told.num) := by have h := hc 0 _ rfl; rw [HK.out.cell (p := ⟨b, o + k * 4, none⟩) (lt_of_cell h) id]; exact h
      have c1 : wr.cell? ⟨b, o + k * 4 + 1, none⟩ = some (.bool x.told.dir) := by have h := hc 1 _ rfl; rw [HK.out.cell (p := ⟨b, o + k * 4 + 1, none⟩) (lt_of_cell h) id]; exact h
      have c2 : wr.cell? ⟨b, o + k * 4 + 2, none⟩ = some (.int .i64 x.told.links) := by have h := hc 2 _ rfl; rw [HK.out.cell (p := ⟨b, o + k * 4 + 2, none⟩) (lt_of_cell h) id]; exact h
      have c3 : wr.cell? ⟨b, o + k * 4 + 3, none⟩ = some (.string ⟨x.told.data.toArray⟩) := by have h := hc 3 _ rfl; rw [HK.out.cell (p := ⟨b, o + k * 4 + 3, none⟩) (lt_of_cell h) id]; exact h
      have hmx := Hq.out.2.2.2 k x (Nat.le_refl _) hx
      have hxn := HW.out.nums x (List.mem_of_getElem? hx)
      have hkt : (k : Int) < T.length := by omega
      have hszw : w.heap.size + 1 < wr.heap.size := HT.out.lt _ (by rw [HT.out.rtree]; exact Role.noConfusion)
      clear hx hc
      go_wp2_with fail
      refine (readn_ok x (HW.out.reads (List.mem_of_getElem? Hx.out)) _).mono ?_
      rintro e w4 ⟨na, nm, rfl, hna, hnm, hne, hnl, hnb, hnn, hk4⟩
      have HX4 : RowKit.Hid (World.blk w4 wr.heap.size #[.int .i64 x.num, .bool x.told.dir, .int .i64 x.told.links, .string ⟨x.told.data.toArray⟩] 41) := Lib.hid (blk_mod hk4 (blk_new _ _ _) id)
      have HNB := Lib.hid hnb
      have HNN := Lib.hid hnn
      have HK4 := Lib.hid (unalloc hk4)
      simp only [World.alloc, Array.size_push] at hna hnm
      have hz := blk_lt HX4.out
      have z0 : w4.cell? ⟨wr.heap.size, 0, none⟩ = some (.int .i64 x.num) := blk_cell HX4.out 0
      have t0 : w4.cell? ⟨w.heap.size + 1, 0, none⟩ = some (.map (some w.heap.size)) := blk_cell (HT.out.keep HK4.out).tree 0
      have hmx1 : ¬ x.num ≤ mm := by omega
      have hmx2 : ¬ 65535 < x.num := by omega
      clear hnb hnn hk4 c0 c1 c2 c3
      go_wp2_with fail
      refine wp_region_qd0 7 (by kernel_rfl) (by kernel_rfl) ?_
      simp only [List.take_succ_cons, List.take_zero, List.drop_succ_cons, List.drop_zero]
      repeat (quiet_step (fail))
      refine wpQuiet_nil ?_
      intro _ hw'
      obtain ⟨nq, rfl⟩ := hw'
      have hkx : Keep w4 (w4.drewN nq) := (Mod.refl _ w4).drewN nq
      have HNB5 := Lib.hid (blk_mod hkx HNB.out id)
      have HNN5 : RowKit.Hid (x.dir = true → MapS (w4.drewN nq) nm x.names) := Lib.hid fun h => (HNN.out h).mod hkx id
      have HK5 := Lib.hid (HK4.out.keep hkx)
      have hz5 := hkx.size
      have hnl5 : nm < (w4.drewN nq).heap.size := Nat.lt_of_lt_of_le hnl hz5
      have hna5 := blk_lt HNB5.out
      clear hkx HNB HNN HK4 z0 t0 HX4
      generalize w4.drewN nq = w5 at *
      have hto := HT.out.rof
      go_wp2_with ((at_mapUpdate
                    refine wpList_store_O (HT.out.of.mod HK5.out id) Tryz.underlying62 Tryz.underlying3 x.num (by omega) na (by simp [addrs]; omega) rfl rfl rfl rfl rfl ?_
                    intro w6 hm6 hmod6
                    have hmodB : Mod (· = w.heap.size) wr w6 := (HK5.out.mono (fun _ _ h => h.elim)).trans hmod6 (fun _ _ h => h)
                    have hna6 : na ≠ w.heap.size := by omega
                    have hnm6 : nm ≠ w.heap.size := by omega
                    have hnum : ∀ y ∈ T.take k, y.num ≠ x.num := fun y hy => by
                      obtain ⟨i, hi⟩ := List.mem_iff_getElem?.1 hy
                      rw [List.getElem?_take] at hi
                      split at hi
                      · have := sorted_lt HW.out.sorted hi Hx.out (by omega); omega
                      · cases hi
                    have ht6 := tree_add (n0 := x) (a := na) (m := nm) HT.out hnum hmodB (by omega) (by omega) (Ne.symm hne) (Nat.lt_of_lt_of_le hna5 hmod6.size) (fun _ => Nat.lt_of_lt_of_le hnl5 hmod6.size) hm6 (blk_mod hmod6 HNB5.out hna6) (fun h => (HNN5.out h).mod hmod6 hnm6)
                    rw [take_add HW.out.sorted Hx.out] at ht6
                    have HT6 := Lib.hid ht6
                    have HK6 : RowKit.Hid (Keep w w6) := Lib.hid (HK.out.new hmodB (Nat.le_refl _))
                    clear hm6 hmod6 hmodB hnum ht6))
      refine ⟨⟨k + 1, x.num, _, _, _, by omega, by go_num, rfl, HK6.out, HT6.out, Lib.hid ⟨fun b hb => ?_, by omega, by omega, fun j n hj hn => sorted_lt HW.out.sorted Hx.out hn (by omega)⟩⟩, by simp [intOf]; omega⟩
      by_cases e1 : b = na
      · omega
      · by_cases e2 : b = nm ∧ x.dir = true
        · omega
        · simp only [if_neg e1, if_neg e2] at hb
          exact Hq.out.1 b hb
    · obtain rfl : k = T.length := by omega
      rw [List.take_length] at HT
      obtain ⟨r, hr, hr1, hrd, hrl⟩ := HW.out.root
      have hg := (get_iff HW.out.sorted).2 ⟨hr, hr1⟩
      have r1 := MapO.look HT.out.of Tryz.underlying62 Tryz.underlying3 (zero_node wr) 1 (by decide)
      rw [addrs_at hg HW.out.sorted] at r1
      simp only [Option.map_some, Option.isSome_some] at r1
      have t0 : wr.cell? ⟨w.heap.size + 1, 0, none⟩ = some (.map (some w.heap.size)) := blk_cell HT.out.tree 0
      have a1 : wr.cell? ⟨A 1, 1, none⟩ = some (.bool r.dir) := HT.out.cell HW.out.sorted hg 1
      have a2 : wr.cell? ⟨A 1, 2, none⟩ = some (.int .i64 r.links) := HT.out.cell HW.out.sorted hg 2
      rw [hrd] at a1
      rw [hrl] at a2
      have hT60 : ¬ (60 : Int) < T.length := by omega
      have Hg := Lib.hid hg
      have Hrd := Lib.hid hrd
      obtain ⟨w5, hrun, hc5, hm5⟩ := (CntAt.made wr).store 1 1 (by decide) (by omega) (by omega)
      have hrun2 : (Instr.mapUpdate 71 (.map (some wr.heap.size)) (.int .i64 1) (.int .i64 1)).run Tryz.prog (wr.alloc (.map #[] 0)) = .ok () w5 := hrun
      have HC5 := Lib.hid hc5
      have HM5 : RowKit.Hid (Keep wr w5) := Lib.hid (((Mod.refl (fun _ => False) wr).alloc _).new hm5 (Nat.le_refl _))
      have hc0 : role wr.heap.size = .none := by
        refine Classical.byContradiction fun hne => ?_
        have := HT.out.lt _ hne; omega
      have Hc0 := Lib.hid hc0
      clear hg hr hr1 hrd hrl hrun hc5 hm5 hc0
      go_wp2_with fail
      have HT5 := Lib.hid (HT.out.keep HM5.out)
      have hc1 : cnt T 1 = 0 := cnt_zero fun m hm p hp => (HW.out.closed m hm p hp).1
      have Hc1 := Lib.hid hc1
      clear r1 t0 a1 a2 hrun2 hc1
      refine (met_any HW.out Hc0.out 8 1 r w5 _ _ HT5.out HC5.out Hg.out Hrd.out (by decide) (by omega) (fun j hj => ?_) ?_).mono ?_
      · rw [sub_cnt HW.out]
        by_cases e : j = 1
        · subst e; rw [Hc1.out]; simp
        · rw [if_neg e]
          unfold dirAt at hj
          cases hgj : T.get j with
          | none => rw [hgj] at hj; cases hj
          | some m =>
            rw [hgj] at hj
            obtain ⟨hm, hmj⟩ := (get_iff HW.out.sorted).1 hgj
            obtain ⟨x1, x2, x3⟩ := HW.out.count m hm (by omega)
            have x4 := x3 hj
            rw [hmj] at x1
            omega
      · have := sub_len HW.out; omega
      rintro e w6 ⟨rfl, hc6, hm6⟩
      have HC6 : RowKit.Hid (CntAt w6 wr.heap.size (fun j => (if j = 1 then 1 else 0) + cnt T j) (0 + 1 + subT T (fun _ => 1) 8 1)) := Lib.hid (hc6.same (fun j => by rw [sub_cnt HW.out]) rfl)
      have HT6 : RowKit.Hid (TreeAt w6 (w.heap.size + 1) T w.heap.size A M role) := Lib.hid (HT5.out.mod hm6 fun b hb e => hb (by rw [e]; exact Hc0.out))
      have HK6 : RowKit.Hid (Keep w w6) := Lib.hid ((HK.out.keep HM5.out).new hm6 (HK.out.size))
      have hcl := HC6.out.lt
      clear hc6 hm6 HC5 HM5 HT5 HK HT
      generalize wr.heap.size = cb at *
      have t0 : w6.cell? ⟨w.heap.size + 1, 0, none⟩ = some (.map (some w.heap.size)) := blk_cell HT6.out.tree 0
      go_wp2_with (at_range; refine wpList_range_own _ rfl _ 62 rfl 3 65 (int_keyed Tryz.underlying3) Tryz.underlying62 _ w.heap.size (addrs T A).length (toO (addrs T A)) rfl HT6.out.of ?_; intro w7 hrg0 hg0 hs0)
      try go_frame
      have Hrg0 := Lib.hid hrg0
      have HK7 : RowKit.Hid (Keep w6 w7) := Lib.hid (keep_grown hg0)
      clear hrg0 hg0 hs0 t0
      go_loopw [13] (fun _ wr => ∃ (left : Lit → Bool) (cnt : Nat), World.ranges wr Tryz.prog 3 ptrElem w.heap.size w6.heap.size (addrs T A).length (toO (addrs T A)) left cnt ∧ Keep w6 wr) (fun _ wr => wr.rangeLeft w.heap.size w6.heap.size)
      case atStart => exact ⟨_, _, Hrg0.out, HK7.out⟩
      case round =>
        clear Hrg0 HK7
        obtain ⟨left, cn, hrg, hK⟩ := hrel
        have Hrg := Lib.hid hrg
        have HK := Lib.hid hK
        clear hrg hK
        go_wp2_with (at_next; refine wpList_next_ranges wr rfl _ rfl 3 (int_keyed Tryz.underlying3) ptrElem (Value.int .i64) Value.pointer inv_int inv_ptr w.heap.size w6.heap.size _ (toO (addrs T A)) left cn rfl Hrg.out ?_ ?_)
        · intro _ hl0
          clear hl0
          go_wp2_with fail
          go_ret2
          refine ⟨w.heap.size + 1, w.heap.size, A, M, role, rfl, HT6.out.keep HK.out, Hq.out.1, HK6.out.keep HK.out⟩
        · intro x c kl yd yp w' cnt' hkey hlk hv hat hrg1 hlt hg1 hs1 hen
          obtain ⟨x', ex, rfl, _⟩ := Maps.keyOf_int_inv Tryz.underlying3 hkey
          cases ex
          obtain ⟨a, hga, rfl⟩ := ptr_of hv hat
          rw [addrs_get] at hga
          cases hgn : T.get x with
          | none => rw [hgn] at hga; cases hga
          | some n =>
            rw [hgn] at hga
            obtain ⟨hnm, hnx⟩ := (get_iff HW.out.sorted).1 hgn
            have ha : A x = a := by
              have : A n.num = a := Option.some.inj hga
              rw [hnx] at this; exact this
            subst ha
            have HK' : RowKit.Hid (Keep w6 w') := Lib.hid (HK.out.grown hg1 (fun i e => .inr (by injection e with e; omega)))
            have HT' := Lib.hid (HT6.out.keep HK'.out)
            have HC' := Lib.hid (HC6.out.mod HK'.out id)
            have a2 : w'.cell? ⟨A x, 2, none⟩ = some (.int .i64 n.links) := HT'.out.cell HW.out.sorted hgn 2
            have hxb := (node_num HW.out hgn).2
            have r2 : ∀ m, (Instr.lookup 71 (.map (some cb)) (.int .i64 x) false).run Tryz.prog (w'.drewN m) = .ok (.int .i64 (((if x = 1 then 1 else 0) + cnt T x : Nat) : Int)) (w'.drewN m) := fun m => (HC'.out.mod ((Mod.refl (fun _ => False) w').drewN m) id).look x hxb
            have hcx : (((if x = 1 then 1 else 0) + cnt T x : Nat) : Int) = n.links ∧ 1 ≤ n.links := by
              by_cases e : x = 1
              · obtain ⟨r', hr, hr1, _, hrl⟩ := HW.out.root
                have : n = r' := num_inj HW.out.sorted hnm hr (by omega)
                rw [this, e, Hc1.out, hrl]; simp
              · obtain ⟨x1, x2, _⟩ := HW.out.count n hnm (by omega)
                rw [hnx] at x1
                rw [if_neg e]; omega
            rw [hcx.1] at r2
            have hl1 : decide (n.links < 1) = false := decide_eq_false (by omega)
            have Hrg1 := Lib.hid hrg1
            have Hlt := Lib.hid (show cnt' < cn from hlt)
            have Hleft := Lib.hid (Hrg.out.left_eq)
            clear hkey hlk hv hat hrg1 hlt hg1 hs1 hga hnm hnx hcx hgn
            go_wp2_with fail
            refine wp_region_qe0 (by kernel_rfl) (by kernel_rfl) ?_
            repeat (go_big_quiet_step (fail))
            refine wpQuiet_nil ?_
            intro _ hw'
            obtain ⟨nq, rfl⟩ := hw'
            have hkx : Keep w' (w'.drewN nq) := (Mod.refl _ w').drewN nq
            have HK'' := Lib.hid (HK'.out.keep hkx)
            have Hrg2 := Lib.hid (Hrg1.out.kept (grown_keep hkx) (by simp) (by simp))
            clear hkx
            generalize w'.drewN nq = w'' at *
            go_wp2_with fail
            refine ⟨⟨_, cnt', Hrg2.out, HK''.out⟩, ?_⟩
            rw [Hrg2.out.left_eq, Hleft.out]
            exact Hlt.out
end
end
section
open Go.RowKit
deriving instance DecidableEq for Nt
theorem nt_eq (x y : Nt) : decide (x = y) = (x.num == y.num && (x.dir == y.dir && (x.links == y.links && x.data == y.data))) := by
  obtain ⟨a, b, c, e⟩ := x
  obtain ⟨a', b', c', e'⟩ := y
  rw [Bool.eq_iff_iff]
  simp
theorem node_equal (x y : Nt) (W : World) : (Op.equalIn 10000 41 (nodeV x) (nodeV y)).run Tryz.prog W = .ok (decide (x = y)) W := by
  have u1 := Tryz.underlying3
  have u2 := Tryz.underlying4
  have u3 := Tryz.underlying9
  have hS : Tryz.prog.underlying 41 = some (.struct (Tryz.prog.fieldsOf 41)) := by kernel_rfl
  have hp : Tryz.prog.stoodInHeld 41 = false := by kernel_rfl
  rw [show (10000 : Nat) = 9999 + 1 from rfl, run_equalIn_agg W 9999 41 _ _ hS hp, nt_eq]
  simp only [Program.fieldsOf, Tryz.underlying41]
  go_simp
  by_cases h1 : x.num = y.num <;> by_cases h2 : x.dir = y.dir <;> by_cases h3 : x.links = y.links <;> by_cases h4 : x.data = y.data <;> simp [h1, h2, h3, h4]
set_option maxRecDepth 100000 in
set_option maxHeartbeats 1000000 in
theorem same_nodes (va vb : Value) (l m : List Nt) (w : World) (ha : RowF nodeC 4 w va l) (hb : RowF nodeC 4 w vb m) (hl : l.length ≤ 1000000) (hm : m.length ≤ 1000000) :
    Calls Tryz.prog 14 #[va, vb] w fun e w' => e = .returned (.bool (decide (l = m))) ∧ Keep w w' := by
  obtain ⟨a, ca, rfl, hA⟩ := ha
  obtain ⟨b, cb, rfl, hB⟩ := hb
  by_cases hlen : l.length = m.length
  · obtain ⟨N, hN⟩ : ∃ N, m.length = N := ⟨_, rfl⟩
    rw [hN] at hlen
    rw [hlen, hN]
    rw [hlen] at hl
    have HA := Lib.hid hA
    have HB := Lib.hid hB
    have Hlen := Lib.hid hlen
    have HN := Lib.hid hN
    clear hA hB hlen hN hm
    have hq : ((N : Int) != (N : Int)) = false := by rw [bne_eq_false_iff_eq]
    go_enter Tryz.func14, Tryz.ntmps14
    go_wp2_with fail
    go_loopw [5] (fun i wr => ∃ (k n : Nat), k ≤ N ∧ i = .int .i64 (k : Int) ∧ wr = w.drewN n ∧ RowKit.Hid (l.take k = m.take k)) (fun i _ => N - (intOf i).toNat)
    case atStart => exact ⟨0, 0, by omega, rfl, rfl, Lib.hid rfl⟩
    case round =>
      obtain ⟨k, n, hk, rfl, rfl, Ht⟩ := hrel
      by_cases hlt : k < N
      · have Hx : RowKit.Hid (∃ x y, l[k]? = some x ∧ m[k]? = some y) := Lib.hid ⟨_, _, List.getElem?_eq_getElem (by rw [Hlen.out]; exact hlt), List.getElem?_eq_getElem (by rw [HN.out]; exact hlt)⟩
        obtain ⟨x, y, hx, hy⟩ := Hx.out
        have Hxx := Lib.hid hx
        have Hyy := Lib.hid hy
        obtain ⟨b1, o1, rfl, c1⟩ := HA.out k x hx
        obtain ⟨b2, o2, rfl, c2⟩ := HB.out k y hy
        have x0 := c1 0 _ rfl
        have x1 := c1 1 _ rfl
        have x2 := c1 2 _ rfl
        have x3 := c1 3 _ rfl
        have y0 := c2 0 _ rfl
        have y1 := c2 1 _ rfl
        have y2 := c2 2 _ rfl
        have y3 := c2 3 _ rfl
        rw [Nat.add_zero] at x0 y0
        have heq := node_equal x y
        clear hx hy Hx c1 c2
        go_wp2_with fail
        refine wp_region_qe (by kernel_rfl) (by kernel_rfl) ?_
        repeat (quiet_step (fail))
        refine wpQuiet_nil ?_
        intro _ hw'
        obtain ⟨nq, rfl⟩ := hw'
        by_cases hxy : x = y
        · rw [show decide (x = y) = true from decide_eq_true hxy]
          have Hxy := Lib.hid hxy
          clear hxy
          go_wp2_with fail
          refine ⟨⟨k + 1, _, by omega, by go_num, rfl, Lib.hid ?_⟩, by simp [intOf]; omega⟩
          rw [List.take_add_one, List.take_add_one, Ht.out, Hxx.out, Hyy.out, Hxy.out]
        · rw [show decide (x = y) = false from decide_eq_false hxy]
          have Hlm : RowKit.Hid (decide (l = m) = false) := Lib.hid (decide_eq_false (fun e => hxy (by have hx := Hxx.out; rw [e, Hyy.out] at hx; exact (Option.some.inj hx).symm)))
          clear hxy
          go_wp2_with fail
          go_ret
          exact ⟨by rw [Hlm.out]; rfl, (Mod.refl _ _).drewN _⟩
      · have hk2 : k = N := by omega
        have hlm : decide (l = m) = true := by
          rw [decide_eq_true_iff]
          have h1 := Ht.out
          rw [hk2] at h1
          rwa [List.take_of_length_le (by rw [Hlen.out]; exact Nat.le_refl _), List.take_of_length_le (by rw [HN.out]; exact Nat.le_refl _)] at h1
        have Hlm := Lib.hid hlm
        clear hk2 hlm
        go_wp2_with fail
        go_ret
        exact ⟨by rw [Hlm.out]; rfl, (Mod.refl _ _).drewN _⟩
  · have hq : ((l.length : Int) != (m.length : Int)) = true := by rw [bne_iff_ne]; omega
    have hlm : decide (l = m) = false := decide_eq_false (fun e => hlen (by rw [e]))
    have Hlm := Lib.hid hlm
    clear hlen hlm hA hB
    go_enter Tryz.func14, Tryz.ntmps14
    go_wp2_with fail
    go_ret
    exact ⟨by rw [Hlm.out]; rfl, Mod.refl _ _⟩
set_option maxRecDepth 100000 in
set_option maxHeartbeats 1000000 in
theorem from_none (w : World) : Calls Tryz.prog 11 #[.slice none 0 0] w fun e w' => e = .returned (.tuple #[.pointer none, .int .i64 1]) ∧ Keep w w' := by
  have hmm := @run_makeMap Tryz.prog
  have hmap : MapP ((w.alloc (.map #[] 0)).alloc (.cells #[.map (some w.heap.size)] 64)) w.heap.size [] := (MapO.made w).mod ((Mod.refl (fun _ => False) _).alloc _) id
  have r1 := MapO.look hmap Tryz.underlying62 Tryz.underlying3 (zero_node _) 1 (by decide)
  simp only [getG, List.find?_nil, Option.map_none, Option.isSome_none] at r1
  clear hmap
  go_enter Tryz.func11, Tryz.ntmps11
  go_wp2_with fail
  refine wp_loop_rounds 1 ?_
  rw [rounds_succ]
  go_wp2_with fail
  go_ret2
  exact ⟨rfl, ((Mod.refl _ w).alloc _).alloc _⟩
end
section
open Go.RowKit
structure TreeIn (w0 w : World) (p : Nat) (T : Tr) (role : Nat → Role) : Prop where
  tree : ∃ tb A M, TreeAt w p T tb A M role
  since : ∀ b, role b ≠ .none → w0.heap.size ≤ b
  keep : Keep w0 w
  wf : ∃ d, WF T d
/-- what a command leaves of a tree's blocks -/
def Grew (w : World) (role role' : Nat → Role) : Prop := ∀ b, role' b ≠ .none → role b ≠ .none ∨ w.heap.size ≤ b
def Apart (role role2 : Nat → Role) : Prop := ∀ b, role b ≠ .none → role2 b = .none
/-- a value's blocks are none of a tree's -/
def Free (role : Nat → Role) (v : Value) : Prop := ∀ b o n c, v = .slice (some ⟨b, o, none⟩) n c → role b = .none
section
variable {w0 w w' : World} {p : Nat} {T : Tr} {role role' role2 : Nat → Role}
theorem TreeIn.lt (h : TreeIn w0 w p T role) {b : Nat} (hb : role b ≠ .none) : b < w.heap.size := by
  obtain ⟨tb, A, M, ht⟩ := h.tree
  exact ht.lt b hb
theorem TreeIn.old (h : TreeIn w0 w p T role) {b : Nat} (hb : w.heap.size ≤ b) : role b = .none :=
  Classical.byContradiction fun hn => by have := h.lt hn; omega
theorem TreeIn.mod (h : TreeIn w0 w p T role) {S : Nat → Prop} (m : Mod S w w') (hS : ∀ b, S b → role b = .none) (h0 : ∀ b, S b → w0.heap.size ≤ b) : TreeIn w0 w' p T role := by
  obtain ⟨tb, A, M, ht⟩ := h.tree
  refine ⟨⟨tb, A, M, ht.mod m fun b hb hs => hb (hS b hs)⟩, h.since, h.keep.trans m fun b hb hs => ?_, h.wf⟩
  have := h0 b hs; omega
theorem TreeIn.kept (h : TreeIn w0 w p T role) (k : Keep w w') : TreeIn w0 w' p T role := h.mod k (fun _ => False.elim) (fun _ => False.elim)
theorem TreeIn.many (h : TreeIn w0 w p T role) : T.length ≤ 60 := by obtain ⟨d, hw⟩ := h.wf; exact hw.many
/-- .. when another tree has turned -/
theorem TreeIn.beside (h : TreeIn w0 w p T role) {w1 : World} {p2 : Nat} {T2 : Tr} (h2 : TreeIn w0 w p2 T2 role2) (ha : Apart role2 role) (m : Mod (fun b => role2 b ≠ .none) w w1) : TreeIn w0 w1 p T role :=
  h.mod m (fun b hb => ha b hb) (fun b hb => h2.since b hb)
theorem Apart.grew (h : TreeIn w0 w p T role) (ha : Apart role2 role) (g : Grew w role2 role') : Apart role' role := fun b hb => by
  rcases g b hb with h1 | h1
  · exact ha b h1
  · exact h.old h1
theorem Apart.symm (h : Apart role role2) : Apart role2 role := fun b hb => Classical.byContradiction fun hn => hb (h b hn)
theorem Free.grew {v : Value} (h : Free role v) (g : Grew w role role') (hb : ∀ b o n c, v = .slice (some ⟨b, o, none⟩) n c → b < w.heap.size) : Free role' v := fun b o n c e => Classical.byContradiction fun hn => by
  rcases g b hn with h1 | h1
  · exact h1 (h b o n c e)
  · have := hb b o n c e; omega
theorem new_in (w0 w : World) (k : Keep w0 w) : Calls Tryz.prog 16 #[] w fun e w' => ∃ p role, e = .returned (.pointer (some ⟨p, 0, none⟩)) ∧ TreeIn w0 w' p Tr.new role ∧ (∀ b, role b ≠ .none → w.heap.size ≤ b) ∧ Keep w w' := by
  refine (new_any w).mono ?_
  rintro e w' ⟨p, tb, A, M, role, rfl, h1, h2, h3⟩
  exact ⟨p, role, rfl, ⟨⟨tb, A, M, h1⟩, fun b hb => Nat.le_trans k.size (h2 b hb), k.keep h3, ⟨_, wf_new⟩⟩, h2, h3⟩
theorem do_in (h : TreeIn w0 w p T role) (he : Env w0) (c : Cmd) (hc : c.Small) : Calls Tryz.prog 17 #[.pointer (some ⟨p, 0, none⟩), cmdV c] w fun e w' => e = .returned (.int .i64 (doT T c).2) ∧ ∃ role', TreeIn w0 w' p (doT T c).1 role' ∧ Grew w role role' ∧ Mod (fun b => role b ≠ .none) w w' := by
  obtain ⟨tb, A, M, ht⟩ := h.tree
  obtain ⟨d, hw⟩ := h.wf
  refine (do_any ht hw (he.keep h.keep) c hc).mono ?_
  rintro e w' ⟨rfl, A', M', role', h1, h2, h3⟩
  refine ⟨rfl, role', ⟨⟨tb, A', M', h1⟩, fun b hb => ?_, h.keep.trans h3 fun b hb hs => ?_, wf_do hw c⟩, h2, h3⟩
  · rcases h2 b hb with h4 | h4
    · exact h.since b h4
    · exact Nat.le_trans h.keep.size h4
  · have := h.since b hs; omega
theorem nodes_in (h : TreeIn w0 w p T role) : Calls Tryz.prog 15 #[.pointer (some ⟨p, 0, none⟩)] w fun e w' => ∃ v, e = .returned v ∧ OwnF nodeC 4 41 w' w.heap.size v (toldT T) ∧ Keep w w' := by
  obtain ⟨tb, A, M, ht⟩ := h.tree
  obtain ⟨d, hw⟩ := h.wf
  exact nodes_any ht hw
theorem get_in (h : TreeIn w0 w p T role) (he : Env w0) (path : List UInt8) (hp : path.length < 4294967281) : Calls Tryz.prog 19 #[.pointer (some ⟨p, 0, none⟩), .string ⟨path.toArray⟩] w fun e w' => e = .returned (getV (nodeT T path)) ∧ Keep w w' := by
  obtain ⟨tb, A, M, ht⟩ := h.tree
  obtain ⟨d, hw⟩ := h.wf
  exact get_any ht hw (he.keep h.keep) path hp
theorem list_in (h : TreeIn w0 w p T role) (he : Env w0) (path : List UInt8) (hp : path.length < 4294967281) : Calls Tryz.prog 26 #[.pointer (some ⟨p, 0, none⟩), .string ⟨path.toArray⟩] w fun e w' => ∃ v, e = .returned (.tuple #[v, .int .i64 (listR (nodeT T path)).2]) ∧ OwnStrs w' w.heap.size v (listR (nodeT T path)).1 ∧ Keep w w' := by
  obtain ⟨tb, A, M, ht⟩ := h.tree
  obtain ⟨d, hw⟩ := h.wf
  exact listf_any ht hw (he.keep h.keep) path hp
theorem read_in (h : TreeIn w0 w p T role) (he : Env w0) (path : List UInt8) (hp : path.length < 4294967281) (i n : Int) (hi : i ≤ 9223372036854775807) (hn : n ≤ 9223372036854775807) :
    Calls Tryz.prog 18 #[.pointer (some ⟨p, 0, none⟩), .string ⟨path.toArray⟩, .int .i64 i, .int .i64 n] w fun e w' => e = .returned (readV (readR (nodeT T path) i n)) ∧ Keep w w' := by
  obtain ⟨tb, A, M, ht⟩ := h.tree
  obtain ⟨d, hw⟩ := h.wf
  exact read_any ht hw (he.keep h.keep) path hp i n hi hn
theorem from_in (h : TreeIn w0 w p T role) (v : Value) (hv : RowF nodeC 4 w v (toldT T)) : Calls Tryz.prog 11 #[v] w fun e w' => ∃ q role2, e = .returned (.tuple #[.pointer (some ⟨q, 0, none⟩), .int .i64 0]) ∧ TreeIn w0 w' q T role2 ∧ (∀ b, role2 b ≠ .none → w.heap.size ≤ b) ∧ Keep w w' := by
  obtain ⟨d, hw⟩ := h.wf
  refine (from_any hw v w hv).mono ?_
  rintro e w' ⟨q, tb, A, M, role2, rfl, h1, h2, h3⟩
  exact ⟨q, role2, rfl, ⟨⟨tb, A, M, h1⟩, fun b hb => Nat.le_trans h.keep.size (h2 b hb), h.keep.keep h3, ⟨d, hw⟩⟩, h2, h3⟩
theorem told_len (T : Tr) : (toldT T).length = T.length := by simp [toldT]
end
/-- a row that was told stays behind a command -/
theorem rowF_free {α : Type} {f : α → List Value} {sz : Nat} {w w' : World} {v : Value} {l : List α} {role : Nat → Role} (h : RowF f sz w v l) (hf : Free role v) (m : Mod (fun b => role b ≠ .none) w w') : RowF f sz w' v l :=
  rowF_mod h m fun b o ⟨n, c, e⟩ hn => hn (hf b o n c e)
theorem row_free {w w' : World} {v : Value} {l : List Value} {role : Nat → Role} (h : RowAt w v l) (hf : Free role v) (m : Mod (fun b => role b ≠ .none) w w') : RowAt w' v l := by
  obtain ⟨a, cap, hv, hx⟩ := h
  refine ⟨a, cap, hv, fun j x hj => ?_⟩
  obtain ⟨b, o, e, hc⟩ := hx j x hj
  exact ⟨b, o, e, by rw [m.cell (p := ⟨b, o + j, none⟩) (lt_of_cell hc) (fun hn => hn (hf b o _ _ (by rw [hv, e])))]; exact hc⟩
theorem own_free {sz : Nat} {t : TypeId} {w : World} {base n : Nat} {v : Value} {xs : List Value} {role : Nat → Role} (h : w.ownsRow base t sz v n xs) (hr : ∀ b, role b ≠ .none → b < base) : Free role v := fun b o n c e => Classical.byContradiction fun hn => by
  subst e
  have h1 := own_base h
  have h2 := hr b hn
  omega
end
end Go.Proofs.YthmpblccplphfaaGreatDoor
