/-
  Strings as lists of bytes: what the walk writes of lengths, cuts, joins. No program here.
-/
import Derived.Test.YthmpblccplphfaaGreatDoorMem
namespace Go.Proofs.YthmpblccplphfaaGreatDoor
section
variable (l m : List UInt8) (a b : Nat)
@[go_sem] theorem str_append : ({ data := l.toArray } : ByteArray) ++ { data := m.toArray } = { data := (l ++ m).toArray } := by
  apply ByteArray.ext; simp [ByteArray.data_append]
@[go_sem] theorem str_extract : ({ data := l.toArray } : ByteArray).extract a b = { data := ((l.drop a).take (b - a)).toArray } := by
  apply ByteArray.ext; simp [ByteArray.data_extract, List.extract_toArray, List.extract]
/-- for a measure: a string's length -/
def lenOf : Value → Nat | .string s => s.size | _ => 0
@[simp] theorem lenOf_str (l : List UInt8) : lenOf (.string ⟨l.toArray⟩) = l.length := rfl
@[go_sem] theorem take_drop_len : (l.drop a).take (l.length - a) = l.drop a := List.take_of_length_le (by simp)
theorem str_self (s : ByteArray) : s = { data := s.data.toList.toArray } := by cases s; rfl
end
/-- bytes as cells -/
def u8s (l : List UInt8) : List Value := l.map fun c => .int .u8 (c.toNat : Int)
theorem addr_add (b o j : Nat) : (⟨b, o, none⟩ : Addr).add j = ⟨b, o + j, none⟩ := by
  unfold Addr.add; split
  · subst_vars; rfl
  · rfl
theorem push_bytes (l : List UInt8) : ∀ (m : List UInt8), (l.map fun c => (c.toNat : Int)).foldl (fun (r : ByteArray) (n : Int) => r.push (UInt8.ofNat n.toNat)) ⟨m.toArray⟩ = ⟨(m ++ l).toArray⟩ := by
  induction l with
  | nil => intro m; simp
  | cons c l ih =>
    intro m
    have e : (⟨m.toArray⟩ : ByteArray).push (UInt8.ofNat ((c.toNat : Int)).toNat) = ⟨(m ++ [c]).toArray⟩ := by
      show (⟨m.toArray.push _⟩ : ByteArray) = _
      simp
    rw [List.map_cons, List.foldl_cons, e, ih]
    simp
/-- string(b): the bytes that the cells hold -/
theorem run_str {P : Program} (w : World) (src dst e : TypeId) (b o len cap : Nat) (l : List UInt8) (hs : P.underlying src = some (.slice e)) (he : P.underlying e = some (.int .u8)) (hd : P.underlying dst = some .string)
    (hl : l.length = len) (h : ∀ j, j < len → w.cell? ⟨b, o + j, none⟩ = (u8s l)[j]?) :
    (convert src dst (.slice (some ⟨b, o, none⟩) len cap)).run P w = .ok (.string ⟨l.toArray⟩) w := by
  have hc : (loadCells ⟨b, o, none⟩ len).run P w = .ok ((l.map fun c => (c.toNat : Int)).map (Value.int .u8)).toArray w := by
    have hx := run_loadCells_list (P := P) w ⟨b, o, none⟩ (u8s l) (fun j v hj => by
      have hlt : j < len := by
        have := (List.getElem?_eq_some_iff.1 hj).1
        simpa [u8s, hl] using this
      rw [addr_add, h j hlt]; exact hj)
    have e1 : (u8s l).length = len := by simp [u8s, hl]
    rw [e1] at hx
    rw [hx]; simp [u8s]
  rw [run_convert_bytes_string w src dst e _ _ _ hs he hd, run_bytesToString w _ _ _ _ hc]
  have := push_bytes l []
  simp only [List.nil_append] at this
  rw [← this]; rfl
/-- a row of bytes -/
def bcells (l : List UInt8) : Array Value := (u8s l).toArray
theorem made_one (v : Value) (hv : v.cells = #[v]) (r : Nat) : madeCells v.cells r = Array.replicate r v := by
  rw [hv]
  apply Array.ext
  · simp [madeCells]
  · intro i h1 h2
    simp [madeCells, Nat.mod_one]
theorem bcells_zero (r : Nat) : Array.replicate r (Value.int .u8 0) = bcells (List.replicate r 0) := by
  apply Array.ext'
  simp [bcells, u8s]
/-- make([]byte, r) -/
theorem run_make_u8 {P : Program} {ts te : TypeId} (hs : P.underlying ts = some (.slice te)) (hi : (P.info? te).map (fun i => (i.zero, i.size, i.bytes)) = some (some (.int .u8 0), 1, 1)) (r : Nat) (hr : r ≤ 281474976710656) (W : World) :
    (Instr.makeSlice ts (.int .i64 r) (.int .i64 r)).run P W = .ok (.slice (some ⟨W.heap.size, 0, none⟩) r r) (W.alloc (.cells (bcells (List.replicate r 0)) te)) := by
  obtain ⟨i0, hi, hz0, hz1, hz2⟩ := info_parts hi
  have h := run_make (P := P) W ts te i0 (.int .u8 0) hs hi hz0 .i64 .i64 (r : Int) (r : Int) (by omega) (Int.le_refl _) (by rw [hz2]; omega) (by omega)
  rwa [Int.toNat_natCast, hz1, Nat.mul_one, made_one _ rfl, bcells_zero] at h
/-- string(b) of a row that was made last -/
theorem run_str_new {P : Program} {ts td te : TypeId} (hs : P.underlying ts = some (.slice te)) (he : P.underlying te = some (.int .u8)) (hd : P.underlying td = some .string) (W : World) (b n : Nat) (l : List UInt8) (hb : b = W.heap.size) :
    (convert ts td (.slice (some ⟨b, 0, none⟩) l.length l.length)).run P ((W.alloc (.cells (bcells l) te)).drewN n) = .ok (.string ⟨l.toArray⟩) ((W.alloc (.cells (bcells l) te)).drewN n) :=
  run_str _ _ _ te b 0 _ _ l hs he hd rfl (fun j hj => by rw [World.cell?_drewN, Nat.zero_add, World.cell?_alloc_at _ _ _ _ hb]; simp [bcells])
/-- .. or made last but one -/
theorem run_str_new2 {P : Program} {ts td te : TypeId} (hs : P.underlying ts = some (.slice te)) (he : P.underlying te = some (.int .u8)) (hd : P.underlying td = some .string) (W : World) (o : Obj) (b n : Nat) (l : List UInt8) (hb : b = W.heap.size) :
    (convert ts td (.slice (some ⟨b, 0, none⟩) l.length l.length)).run P (((W.alloc (.cells (bcells l) te)).alloc o).drewN n) = .ok (.string ⟨l.toArray⟩) (((W.alloc (.cells (bcells l) te)).alloc o).drewN n) :=
  run_str _ _ _ te b 0 _ _ l hs he hd rfl (fun j hj => by
    rw [World.cell?_drewN, Nat.zero_add, World.cell?_alloc_past _ _ _ (by simp; omega), World.cell?_alloc_at _ _ _ _ hb]; simp [bcells])
/-- string(b) of a block of bytes that is known whole -/
theorem run_str_blk {P : Program} {ts td te : TypeId} (hs : P.underlying ts = some (.slice te)) (he : P.underlying te = some (.int .u8)) (hd : P.underlying td = some .string) {w : World} {b len : Nat} (cap : Nat) {l : List UInt8} (hB : World.blk w b (bcells l) te) (hl : l.length = len) :
    (convert ts td (.slice (some ⟨b, 0, none⟩) len cap)).run P w = .ok (.string ⟨l.toArray⟩) w :=
  run_str _ _ _ te b 0 _ _ l hs he hd hl (fun j hj => by rw [Nat.zero_add, blk_cell hB j]; simp [bcells])
theorem bcells_set (l : List UInt8) (k : Nat) (d : UInt8) : (bcells l).setIfInBounds k (.int .u8 (d.toNat : Int)) = bcells (l.set k d) := by
  apply Array.ext'
  simp [bcells, u8s, List.map_set]
/-- behind an append: what is old is what it was, if the row that was written is new -/
theorem Mod.grown {w0 w w' : World} {S : Nat → Prop} {row : Option Nat} (h : Mod S w0 w) (hg : w.grownBy w' row) (hrow : ∀ k, row = some k → S k ∨ w0.heap.size ≤ k) : Mod S w0 w' :=
  ⟨hg.os.trans h.os, hg.tape.trans h.tape, hg.output.trans h.output, Nat.le_trans h.size hg.size, fun k hk hS => by
    rw [hg.block k (Nat.lt_of_lt_of_le hk h.size) (fun e => by rcases hrow k e.symm with h1 | h1; exact hS h1; omega)]; exact h.block k hk hS⟩
/-- append(b, c): one byte behind a row of the call's own -/
theorem append_byte {P : Program} {ts te : TypeId} (hs : P.underlying ts = some (.slice te)) (hi : (P.info? te).map (fun i => (i.zero, i.size, i.bytes)) = some (some (.int .u8 0), 1, 1)) (base : Nat) (v : Value) (n : Nat) (xs : List UInt8) (w w0 : World)
    (hown : w.ownsRow base te 1 v n (u8s xs)) (c : UInt8) (hn : n + 1 ≤ 140737488355328) (hbase : base ≤ w.heap.size) (h0 : Keep w0 w) (hb0 : w0.heap.size ≤ base) :
    ∃ v' w', (Builtin.append_ #[ts, ts] ts #[v, .slice (some ⟨w.heap.size, 0, none⟩) 1 1]).run P (w.alloc (.cells #[.int .u8 (c.toNat : Int)] te)) = .ok v' w' ∧ w'.ownsRow base te 1 v' (n + 1) (u8s (xs ++ [c])) ∧ Keep w0 w' := by
  obtain ⟨i0, hi, hz0, hz1, hz2⟩ := info_parts hi
  obtain ⟨v', w', h1, h2, h3, _⟩ := run_append_own (P := P) (w.alloc (.cells #[.int .u8 (c.toNat : Int)] te)) base ts ts te i0 (.int .u8 0) 1 1 hs hi hz0 hz1 hz2 rfl (by decide) v n (u8s xs) (hown.alloc _) ⟨w.heap.size, 0, none⟩ 1 1 [.int .u8 (c.toNat : Int)] rfl (cell_one_new _ _ _) (by intro u hu; simp at hu; subst hu; rfl) (by unfold maxLen; omega) (by omega) (by simp; omega)
  refine ⟨v', w', h1, ?_, Mod.grown (h0.alloc _) h3 (fun k hk => .inr ?_)⟩
  · have e : u8s (xs ++ [c]) = u8s xs ++ [.int .u8 (c.toNat : Int)] := by simp [u8s]
    rw [e]; exact h2
  · exact Nat.le_trans hb0 (hown.lt k hk).1
/-- an append whose run is known -/
theorem wpList_append_run {P : Program} {w w' : World} {ops : Array Oper} {rest : List Oper} {o : Oper} {a : Act} {Q : Exit → Act → World → Prop} {s x : Operand} {t : TypeId} {v xv v' : Value}
    (hrun : (Builtin.append_ #[t, t] o.type #[v, xv]).run P w = .ok v' w') (hgd : o.guard = none) (ho : o.op = .call { callee := .builtin .append, args := #[s, x], argTypes := #[t, t] }) (hs : a.eval s = v) (hx : a.eval x = xv)
    (h : wpList P ops Q rest (a.put o.dst v') w') : wpList P ops Q (o :: rest) a w :=
  wpList_plain hgd fun _ hK => by
    unfold Oper.wp execOp
    simp only [ho, resolve, invoke, builtin, Sem.run_bind, Sem.run_pure, Result.andThen_ok, List.map_toArray, List.map_cons, List.map_nil, hs, hx, hrun]
    exact hK _ _ h
end Go.Proofs.YthmpblccplphfaaGreatDoor
