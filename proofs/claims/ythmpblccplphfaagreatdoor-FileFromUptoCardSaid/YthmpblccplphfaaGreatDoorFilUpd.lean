/-
  A tree of files in memory, updated.
-/
import Derived.Test.YthmpblccplphfaaGreatDoorFilGet
namespace Go.Proofs.YthmpblccplphfaaGreatDoor
open Go.RowKit
/-- a store into a map whose run is known -/
theorem wpList_update_run {P : Program} {w w' : World} {ops : Array Oper} {rest : List Oper} {o : Oper} {a : Act} {Q : Exit → Act → World → Prop} {m x v : Operand} {t : TypeId} {mv xv vv : Value}
    (hrun : (Instr.mapUpdate t mv xv vv).run P w = .ok () w') (hgd : o.guard = none) (ho : o.op = Op.mapUpdate t m x v) (hm : a.eval m = mv) (hx : a.eval x = xv) (hv : a.eval v = vv)
    (h : wpList P ops Q rest (a.put o.dst undef) w') : wpList P ops Q (o :: rest) a w := by
  refine wpList_plain hgd fun K' hK' => ?_
  unfold Oper.wp
  simp [execOp, ho, hm, hx, hv, hrun, Result.andThen]
  exact hK' _ _ h
/-- .. a delete -/
theorem wpList_delete_run {P : Program} {w w' : World} {ops : Array Oper} {rest : List Oper} {o : Oper} {a : Act} {Q : Exit → Act → World → Prop} {m x : Operand} {t k : TypeId} {mv xv : Value}
    (hrun : (Builtin.delete_ #[t, k] o.type #[mv, xv]).run P w = .ok (.tuple #[]) w') (hgd : o.guard = none) (ho : o.op = Op.call { callee := Callee.builtin Builtin.delete, args := #[m, x], argTypes := #[t, k] }) (hm : a.eval m = mv) (hx : a.eval x = xv)
    (h : wpList P ops Q rest (a.put o.dst (.tuple #[])) w') : wpList P ops Q (o :: rest) a w := by
  refine wpList_plain hgd fun K' hK' => ?_
  unfold Oper.wp
  simp [execOp, ho, resolve, invoke, builtin, hm, hx, hrun, Result.andThen]
  exact hK' _ _ h
theorem MapN.made' {P : Program} {tk te : TypeId} {b : Nat} {w : World} (h : b = w.heap.size) (_u : Unit) : MapN P tk te (w.alloc (.map #[] 0)) b [] := h ▸ MapN.made w
theorem wpList_delete_N {P : Program} {tm tk te : TypeId} {w : World} {b : Nat} {l : Nm} {ops : Array Oper} {rest : List Oper} {o : Oper} {a : Act} {Q : Exit → Act → World → Prop} {m x : Operand} (hmap : MapN P tk te w b l) (ht : P.underlying tm = some (.map tk te)) (hk : P.underlying tk = some .string) (s : List UInt8) (hs : s.length ≤ 140737488355328)
    (hgd : o.guard = none) (ho : o.op = Op.call { callee := Callee.builtin Builtin.delete, args := #[m, x], argTypes := #[tm, tk] }) (hm : a.eval m = .map (some b)) (hx : a.eval x = .string ⟨s.toArray⟩)
    (h : ∀ w', MapN P tk te w' b (delG s l) → Mod (· = b) w w' → wpList P ops Q rest (a.put o.dst (.tuple #[])) w') : wpList P ops Q (o :: rest) a w := by
  obtain ⟨w', hrun, h1, h2⟩ := MapN.drop hmap ht hk s hs o.type
  exact wpList_delete_run hrun hgd ho hm hx (h w' h1 h2)
theorem wpList_delete_O {P : Program} {tm tk te : TypeId} {w : World} {b : Nat} {l : List (Int × Nat)} {ops : Array Oper} {rest : List Oper} {o : Oper} {a : Act} {Q : Exit → Act → World → Prop} {m x : Operand} (hmap : MapO P tk w b l) (ht : P.underlying tm = some (.map tk te)) (hk : P.underlying tk = some (.int .i64)) (k : Int) (hkk : -9223372036854775808 ≤ k ∧ k ≤ 9223372036854775807)
    (hgd : o.guard = none) (ho : o.op = Op.call { callee := Callee.builtin Builtin.delete, args := #[m, x], argTypes := #[tm, tk] }) (hm : a.eval m = .map (some b)) (hx : a.eval x = .int .i64 k)
    (h : ∀ w', MapO P tk w' b (delG k l) → Mod (· = b) w w' → wpList P ops Q rest (a.put o.dst (.tuple #[])) w') : wpList P ops Q (o :: rest) a w := by
  obtain ⟨w', hrun, h1, h2⟩ := MapO.drop hmap ht hk k hkk o.type
  exact wpList_delete_run hrun hgd ho hm hx (h w' h1 h2)
theorem wpList_store_N {P : Program} {tm tk te : TypeId} {w : World} {b : Nat} {l : Nm} {ops : Array Oper} {rest : List Oper} {o : Oper} {a : Act} {Q : Exit → Act → World → Prop} {m x v : Operand} (hmap : MapN P tk te w b l) (ht : P.underlying tm = some (.map tk te)) (hk : P.underlying tk = some .string) (he : P.underlying te = some (.int .i64)) (s : List UInt8) (hs : s.length ≤ 140737488355328) (k : Int) (hkk : -9223372036854775808 ≤ k ∧ k ≤ 9223372036854775807) (hl : l.length < 140737488355328)
    (hgd : o.guard = none) (ho : o.op = Op.mapUpdate tm m x v) (hm : a.eval m = .map (some b)) (hx : a.eval x = .string ⟨s.toArray⟩) (hv : a.eval v = .int .i64 k)
    (h : ∀ w', MapN P tk te w' b (putG bytesBefore s k l) → Mod (· = b) w w' → wpList P ops Q rest (a.put o.dst undef) w') : wpList P ops Q (o :: rest) a w := by
  obtain ⟨w', hrun, h1, h2⟩ := MapN.store hmap ht hk he s hs k hkk hl
  exact wpList_update_run hrun hgd ho hm hx hv (h w' h1 h2)
theorem wpList_store_O {P : Program} {tm tk te : TypeId} {w : World} {b : Nat} {l : List (Int × Nat)} {ops : Array Oper} {rest : List Oper} {o : Oper} {a : Act} {Q : Exit → Act → World → Prop} {m x v : Operand} (hmap : MapO P tk w b l) (ht : P.underlying tm = some (.map tk te)) (hk : P.underlying tk = some (.int .i64)) (k : Int) (hkk : -9223372036854775808 ≤ k ∧ k ≤ 9223372036854775807) (n : Nat) (hl : l.length < 140737488355328)
    (hgd : o.guard = none) (ho : o.op = Op.mapUpdate tm m x v) (hm : a.eval m = .map (some b)) (hx : a.eval x = .int .i64 k) (hv : a.eval v = .pointer (some ⟨n, 0, none⟩))
    (h : ∀ w', MapO P tk w' b (putG (fun a b => decide (a < b)) k n l) → Mod (· = b) w w' → wpList P ops Q rest (a.put o.dst undef) w') : wpList P ops Q (o :: rest) a w := by
  obtain ⟨w', hrun, h1, h2⟩ := MapO.store hmap ht hk k hkk n hl
  exact wpList_update_run hrun hgd ho hm hx hv (h w' h1 h2)
section
variable {w w' : World} {p tb : Nat} {T : Tr} {A M : Int → Nat} {role : Nat → Role} {d : Int → Nat} {off : Int → Int}
theorem role_ne {w : World} (h : TreeAt w p T tb A M role) {k : Int} {n : Nd} (hg : n ∈ T) (hk : n.num = k) (hd : n.dir = true) : p ≠ M k ∧ tb ≠ M k ∧ (∀ m ∈ T, A m.num ≠ M k) ∧ (∀ m ∈ T, m.dir = true → m.num ≠ k → M m.num ≠ M k) := by
  have hr := h.rnames n hg hd
  rw [hk] at hr
  refine ⟨fun e => ?_, fun e => ?_, fun m hm e => ?_, fun m hm hmd hmk e => ?_⟩
  · rw [← e, h.rtree] at hr; cases hr
  · rw [← e, h.rof] at hr; cases hr
  · rw [← e, h.rnode m hm] at hr; cases hr
  · rw [← e, h.rnames m hm hmd] at hr
    injection hr with e1
    exact hmk e1
/-- a directory's names turn -/
theorem tree_named (h : TreeAt w p T tb A M role) (hs : Sorted T) {k : Int} {n : Nd} {f : Nm → Nm} (hg : T.get k = some n) (hd : n.dir = true) (m : Mod (· = M k) w w') (hn : MapS w' (M k) (f n.names)) : TreeAt w' p (T.named k f) tb A M role := by
  obtain ⟨hm, hk⟩ := (get_iff hs).1 hg
  obtain ⟨n1, n2, n3, n4⟩ := role_ne h hm hk hd
  have hmem : ∀ x ∈ T.named k f, ∃ y ∈ T, y.num = x.num ∧ y.dir = x.dir ∧ (∀ a, cellsN x a = cellsN y a) ∧ ((y.num ≠ k ∧ x.names = y.names) ∨ (y = n ∧ x.names = f n.names)) := by
    intro x hx
    obtain ⟨y, hy, rfl⟩ := mem_upd.1 hx
    refine ⟨y, hy, ?_⟩
    by_cases e : y.num = k
    · rw [if_pos (beq_iff_eq.2 e)]
      have e2 := num_inj hs hy hm (by omega)
      exact ⟨rfl, rfl, fun _ => rfl, .inr ⟨e2, by rw [← e2]⟩⟩
    · rw [if_neg (by simpa using e)]
      exact ⟨rfl, rfl, fun _ => rfl, .inl ⟨e, rfl⟩⟩
  refine ⟨blk_mod m h.tree n1, h.rtree, ?_, h.rof, ?_, ?_, ?_, ?_, fun b hb => Nat.lt_of_lt_of_le (h.lt b hb) m.size⟩
  · have e : addrs (T.named k f) A = addrs T A := by
      have e1 : (T.named k f).map (·.num) = T.map (·.num) := upd_nums (f := fun n => { n with names := f n.names }) fun _ => rfl
      have e2 : ∀ L : Tr, addrs L A = (L.map (·.num)).map fun i => (i, A i) := fun L => by simp [addrs]
      rw [e2, e2, e1]
    rw [e]; exact h.of.mod m n2
  · intro x hx
    obtain ⟨y, hy, e1, e2, e3, _⟩ := hmem x hx
    rw [e3, ← e1]; exact blk_mod m (h.node y hy) (n3 y hy)
  · intro x hx
    obtain ⟨y, hy, e1, _⟩ := hmem x hx
    rw [← e1]; exact h.rnode y hy
  · intro x hx hxd
    obtain ⟨y, hy, e1, e2, e3, ⟨e4, e5⟩ | ⟨e4, e5⟩⟩ := hmem x hx
    · rw [e5, ← e1]; exact (h.names y hy (e2.trans hxd)).mod m (n4 y hy (e2.trans hxd) e4)
    · rw [e5, ← e1, e4, hk]; exact hn
  · intro x hx hxd
    obtain ⟨y, hy, e1, e2, _⟩ := hmem x hx
    rw [← e1]; exact h.rnames y hy (e2.trans hxd)
theorem role_ne2 {w : World} (h : TreeAt w p T tb A M role) {k : Int} {n : Nd} (hg : n ∈ T) (hk : n.num = k) : p ≠ A k ∧ tb ≠ A k ∧ (∀ m ∈ T, m.num ≠ k → A m.num ≠ A k) ∧ (∀ m ∈ T, m.dir = true → M m.num ≠ A k) := by
  have hr := h.rnode n hg
  rw [hk] at hr
  refine ⟨fun e => ?_, fun e => ?_, fun m hm hmk e => ?_, fun m hm hmd e => ?_⟩
  · rw [← e, h.rtree] at hr; cases hr
  · rw [← e, h.rof] at hr; cases hr
  · rw [← e, h.rnode m hm] at hr
    injection hr with e1
    exact hmk e1
  · rw [← e, h.rnames m hm hmd] at hr; cases hr
/-- a node's bytes turn, or how many names it has -/
theorem tree_upd (h : TreeAt w p T tb A M role) (hs : Sorted T) {k : Int} {n : Nd} {f : Nd → Nd} (hf : ∀ n, (f n).num = n.num ∧ (f n).dir = n.dir ∧ (f n).names = n.names) (hg : T.get k = some n) (m : Mod (· = A k) w w')
    (hn : World.blk w' (A k) (cellsN (f n) (M k)) 70) : TreeAt w' p (T.upd k f) tb A M role := by
  obtain ⟨hm, hk⟩ := (get_iff hs).1 hg
  obtain ⟨n1, n2, n3, n4⟩ := role_ne2 h hm hk
  have hmem : ∀ x ∈ T.upd k f, ∃ y ∈ T, y.num = x.num ∧ y.dir = x.dir ∧ x.names = y.names ∧ ((y.num ≠ k ∧ x = y) ∨ (y = n ∧ x = f n)) := by
    intro x hx
    obtain ⟨y, hy, rfl⟩ := mem_upd.1 hx
    refine ⟨y, hy, ?_⟩
    by_cases e : y.num = k
    · rw [if_pos (beq_iff_eq.2 e)]
      have e2 := num_inj hs hy hm (by omega)
      exact ⟨(hf y).1.symm, (hf y).2.1.symm, (hf y).2.2, .inr ⟨e2, by rw [e2]⟩⟩
    · rw [if_neg (by simpa using e)]
      exact ⟨rfl, rfl, rfl, .inl ⟨e, rfl⟩⟩
  refine ⟨blk_mod m h.tree n1, h.rtree, ?_, h.rof, ?_, ?_, ?_, ?_, fun b hb => Nat.lt_of_lt_of_le (h.lt b hb) m.size⟩
  · have e : addrs (T.upd k f) A = addrs T A := by
      have e1 : (T.upd k f).map (·.num) = T.map (·.num) := upd_nums fun n => (hf n).1
      have e2 : ∀ L : Tr, addrs L A = (L.map (·.num)).map fun i => (i, A i) := fun L => by simp [addrs]
      rw [e2, e2, e1]
    rw [e]; exact h.of.mod m n2
  · intro x hx
    obtain ⟨y, hy, e1, e2, e3, ⟨e4, e5⟩ | ⟨e4, e5⟩⟩ := hmem x hx
    · rw [e5]; exact blk_mod m (h.node y hy) (n3 y hy e4)
    · rw [e5, (hf n).1, hk]; exact hn
  · intro x hx
    obtain ⟨y, hy, e1, _⟩ := hmem x hx
    rw [← e1]; exact h.rnode y hy
  · intro x hx hxd
    obtain ⟨y, hy, e1, e2, e3, _⟩ := hmem x hx
    rw [e3, ← e1]; exact (h.names y hy (e2.trans hxd)).mod m (n4 y hy (e2.trans hxd))
  · intro x hx hxd
    obtain ⟨y, hy, e1, e2, _⟩ := hmem x hx
    rw [← e1]; exact h.rnames y hy (e2.trans hxd)
theorem addrs_add {n0 : Nd} {a : Nat} (hn : ∀ m ∈ T, m.num ≠ n0.num) : addrs (Tr.add n0 T) (fun k => if k = n0.num then a else A k) = putG (fun a b => decide (a < b)) n0.num a (addrs T A) := by
  have e1 : ∀ L : Tr, (∀ m ∈ L, m.num ≠ n0.num) → addrs L (fun k => if k = n0.num then a else A k) = addrs L A := fun L hL => by
    unfold addrs
    exact List.map_congr_left fun m hm => by show (m.num, if m.num = n0.num then a else A m.num) = _; rw [if_neg (hL m hm)]
  have e2 : delG n0.num (addrs T A) = addrs T A := List.filter_eq_self.2 fun q hq => by
    obtain ⟨m, hm, rfl⟩ := List.mem_map.1 hq
    rw [beq_false_of_ne (hn m hm)]; rfl
  unfold putG
  rw [e2]
  clear e2
  induction T with
  | nil => simp [Tr.add, addrs, insG]
  | cons y r ih =>
    have hr : ∀ m ∈ r, m.num ≠ n0.num := fun m hm => hn m (by simp [hm])
    have hy : addrs (y :: r) A = (y.num, A y.num) :: addrs r A := rfl
    rw [hy]
    unfold Tr.add insG
    by_cases h : n0.num < y.num
    · rw [if_pos h, if_pos (by simpa using h), ← hy, ← e1 _ hn]
      show (n0.num, if n0.num = n0.num then a else A n0.num) :: _ = _
      rw [if_pos rfl]; rfl
    · rw [if_neg h, if_neg (by simpa using h), ← ih hr]
      show (y.num, if y.num = n0.num then a else A y.num) :: _ = _
      rw [if_neg (hn y (by simp))]; rfl
theorem addrs_drop {j : Int} : addrs (T.drop j) A = delG j (addrs T A) := by
  unfold addrs Tr.drop delG
  rw [List.filter_map]
  rfl
/-- a new node -/
theorem tree_add (h : TreeAt w p T tb A M role) {n0 : Nd} {a m : Nat} (hn : ∀ x ∈ T, x.num ≠ n0.num) (hmod : Mod (· = tb) w w') (ha : w.heap.size ≤ a) (hm : w.heap.size ≤ m) (ham : a ≠ m) (ha2 : a < w'.heap.size) (hm2 : n0.dir = true → m < w'.heap.size)
    (hof : MapP w' tb (putG (fun a b => decide (a < b)) n0.num a (addrs T A))) (hnode : World.blk w' a (cellsN n0 m) 70) (hnames : n0.dir = true → MapS w' m n0.names) :
    TreeAt w' p (Tr.add n0 T) tb (fun k => if k = n0.num then a else A k) (fun k => if k = n0.num then m else M k) (fun b => if b = a then .node n0.num else if b = m ∧ n0.dir = true then .names n0.num else role b) := by
  have old : ∀ b, role b ≠ .none → (if b = a then Role.node n0.num else if b = m ∧ n0.dir = true then .names n0.num else role b) = role b := fun b hb => by
    have := h.lt b hb
    rw [if_neg (by omega), if_neg (fun e => by omega)]
  have hp : role p ≠ .none := by rw [h.rtree]; exact Role.noConfusion
  have ht : role tb ≠ .none := by rw [h.rof]; exact Role.noConfusion
  have hpt : p ≠ tb := fun e => by have := h.rtree; rw [e, h.rof] at this; cases this
  refine ⟨blk_mod hmod h.tree hpt, by rw [old p hp]; exact h.rtree, by rw [addrs_add hn]; exact hof, by rw [old tb ht]; exact h.rof, ?_, ?_, ?_, ?_, ?_⟩
  · intro x hx
    rcases mem_add.1 hx with rfl | hx
    · rw [if_pos rfl, if_pos rfl]; exact hnode
    · rw [if_neg (hn x hx), if_neg (hn x hx)]
      exact blk_mod hmod (h.node x hx) (fun e => by have := h.rnode x hx; rw [e, h.rof] at this; cases this)
  · intro x hx
    rcases mem_add.1 hx with rfl | hx
    · rw [if_pos rfl, if_pos rfl]
    · rw [if_neg (hn x hx)]
      show (if A x.num = a then _ else _) = _
      rw [old _ (by rw [h.rnode x hx]; exact Role.noConfusion)]; exact h.rnode x hx
  · intro x hx hxd
    rcases mem_add.1 hx with rfl | hx
    · rw [if_pos rfl]; exact hnames hxd
    · rw [if_neg (hn x hx)]
      exact (h.names x hx hxd).mod hmod (fun e => by have := h.rnames x hx hxd; rw [e, h.rof] at this; cases this)
  · intro x hx hxd
    rcases mem_add.1 hx with rfl | hx
    · rw [if_pos rfl, if_neg (fun e => ham e.symm), if_pos ⟨rfl, hxd⟩]
    · rw [if_neg (hn x hx)]
      show (if M x.num = a then _ else _) = _
      rw [old _ (by rw [h.rnames x hx hxd]; exact Role.noConfusion)]; exact h.rnames x hx hxd
  · intro b hb
    by_cases e : b = a
    · rw [e]; exact ha2
    · by_cases e2 : b = m ∧ n0.dir = true
      · rw [e2.1]; exact hm2 e2.2
      · rw [if_neg e, if_neg e2] at hb
        exact Nat.lt_of_lt_of_le (h.lt b hb) hmod.size
/-- a node goes -/
theorem tree_drop (h : TreeAt w p T tb A M role) {j : Int} (hmod : Mod (· = tb) w w') (hof : MapP w' tb (delG j (addrs T A))) : TreeAt w' p (T.drop j) tb A M role := by
  have hpt : p ≠ tb := fun e => by have := h.rtree; rw [e, h.rof] at this; cases this
  refine ⟨blk_mod hmod h.tree hpt, h.rtree, by rw [addrs_drop]; exact hof, h.rof, ?_, fun x hx => h.rnode x (mem_drop.1 hx).1, ?_, fun x hx => h.rnames x (mem_drop.1 hx).1, fun b hb => Nat.lt_of_lt_of_le (h.lt b hb) hmod.size⟩
  · intro x hx
    have hx := (mem_drop.1 hx).1
    exact blk_mod hmod (h.node x hx) (fun e => by have := h.rnode x hx; rw [e, h.rof] at this; cases this)
  · intro x hx hxd
    have hx := (mem_drop.1 hx).1
    exact (h.names x hx hxd).mod hmod (fun e => by have := h.rnames x hx hxd; rw [e, h.rof] at this; cases this)
end
/-- behind a call: the tree is another one; only its own blocks have turned -/
def Turned (w w' : World) (p tb : Nat) (role : Nat → Role) (T' : Tr) : Prop :=
  ∃ A' M' role', TreeAt w' p T' tb A' M' role' ∧ (∀ b, role' b ≠ .none → role b ≠ .none ∨ w.heap.size ≤ b) ∧ Mod (fun b => role b ≠ .none) w w'
theorem Turned.same {w w' : World} {p tb : Nat} {T : Tr} {A M : Int → Nat} {role : Nat → Role} (h : TreeAt w p T tb A M role) (k : Keep w w') : Turned w w' p tb role T :=
  ⟨A, M, role, h.keep k, fun _ hb => .inl hb, k.mono (fun _ _ h => h.elim)⟩
end Go.Proofs.YthmpblccplphfaaGreatDoor
