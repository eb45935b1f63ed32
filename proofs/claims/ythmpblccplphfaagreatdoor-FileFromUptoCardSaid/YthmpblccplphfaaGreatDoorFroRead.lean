/-
  errors.As at wire.wrong: what wire.number tells of an error (after the kit's worked example of errors.As).
  wire.Reader at any bytes: something is read, or why not is kept.
  The reference's lists of entries, of any entries.
  tables.parse at bytes that are no list of entries.
  The reference's list of entries, of bytes that are none.
  files.read of any node.
-/
import Derived.Test.YthmpblccplphfaaGreatDoorMem
import Derived.Test.YthmpblccplphfaaGreatDoorProg
import Derived.LaidEql
import Derived.Stop.Asserts
import Derived.RowKitTokens
import Derived.Test.YthmpblccplphfaaGreatDoorTabRead
import Derived.Test.YthmpblccplphfaaGreatDoorRefParse
import Derived.Test.YthmpblccplphfaaGreatDoorFroL
namespace Go.Proofs.YthmpblccplphfaaGreatDoor
section
open Go.RowKit Go.Extern.Stop Go.Stop Go.Extern
theorem as_nil (t : Value) (w : World) :
    Calls Tryz.prog 184 #[.nilIface, t] w fun e w' => e = .returned (.bool false) ∧ w' = w := by
  go_enter Tryz.func184, Tryz.ntmps184
  go_wp2
  go_ret
  exact ⟨rfl, rfl⟩
theorem valueOfP (t : Addr) (w : World) : (ReflectliteValue.unpack (.iface 227 (.pointer (some t)))).run Tryz.prog w
    = .ok (.agg #[.pointer (some ⟨9, 227, none⟩), .pointer (some ⟨w.heap.size, 0, none⟩), .int .u64 150]) (w.alloc (.cells #[.pointer (some t)] 227)) := by kernel_rfl
theorem typeP (a : Addr) (w : World) : (ReflectliteValue.methodAny (ReflectliteValue.valueError "reflectlite.Value.Type" 0) (fun t _ _ _ => ReflectliteType.toType t) #[.agg #[.pointer (some ⟨9, 227, none⟩), .pointer (some a), .int .u64 150]]).run Tryz.prog w
    = .ok (.iface 267 (.agg #[.pointer (some ⟨9, 227, none⟩)])) w := by kernel_rfl
theorem methodKind (h : Value) (w : World) : (Go.method 416 267 (.agg #[h]) "Kind").run Tryz.prog w = .ok (243, h) w := by kernel_rfl
theorem kindP (w : World) : ((ReflectliteType.abiMethod fun t => (fun a : Nat => Value.int IntKind.u8 (a : Int)) <$> Rtype.kind t) #[.pointer (some ⟨9, 227, none⟩)]).run Tryz.prog w = .ok (.int .u8 22) w := by kernel_rfl
theorem kindW (w : World) : ((ReflectliteType.abiMethod fun t => (fun a : Nat => Value.int IntKind.u8 (a : Int)) <$> Rtype.kind t) #[.pointer (some ⟨9, 225, none⟩)]).run Tryz.prog w = .ok (.int .u8 25) w := by kernel_rfl
theorem rlm (z : Sem Value) (f : TypeId → Addr → Nat → Nat → Sem Value) (v : Value) :
    ReflectliteValue.method z f #[v] = (do match ← ReflectliteValue.parts v with | none => z | some (t, a, fl) => f t a fl (fl % 32)) := rfl
theorem partsP (a : Addr) (w : World) : (ReflectliteValue.parts (.agg #[.pointer (some ⟨9, 227, none⟩), .pointer (some a), .int .u64 150])).run Tryz.prog w = .ok (some (227, a, 150)) w := by kernel_rfl
theorem isNilP (a p : Addr) (W : World) (ha : W.cell? a = some (.pointer (some p))) :
    (ReflectliteValue.method (ReflectliteValue.valueError "reflectlite.Value.IsNil" 0) ReflectliteValue.isNil #[.agg #[.pointer (some ⟨9, 227, none⟩), .pointer (some a), .int .u64 150]]).run Tryz.prog W = .ok (.bool false) W := by
  rw [rlm]
  simp only [Sem.run_bind, partsP, Result.andThen]
  simp [ReflectliteValue.isNil, loadVar, isAgg, underlying, Tryz.underlying227, ha, Result.andThen]
theorem methodElem (h : Value) (w : World) : (Go.method 416 267 (.agg #[h]) "Elem").run Tryz.prog w = .ok (258, .agg #[h]) w := by kernel_rfl
theorem methodImplements (h : Value) (w : World) : (Go.method 416 267 (.agg #[h]) "Implements").run Tryz.prog w = .ok (259, .agg #[h]) w := by kernel_rfl
theorem methodAssignableTo (h : Value) (w : World) : (Go.method 416 267 (.agg #[h]) "AssignableTo").run Tryz.prog w = .ok (256, .agg #[h]) w := by kernel_rfl
theorem elemP (w : World) : (ReflectliteType.method ReflectliteType.elem #[.agg #[.pointer (some ⟨9, 227, none⟩)]]).run Tryz.prog w = .ok (.iface 267 (.agg #[.pointer (some ⟨9, 225, none⟩)])) w := by kernel_rfl
theorem implementsW (w : World) : (ReflectliteType.relation "Implements" ReflectliteType.implements_ #[.agg #[.pointer (some ⟨9, 225, none⟩)], .iface 267 (.agg #[.pointer (some ⟨9, 152, none⟩)])]).run Tryz.prog w = .ok (.bool true) w := by kernel_rfl
theorem typeOfW (v : Value) (w : World) : (ReflectliteType.typeOf #[.iface 225 v]).run Tryz.prog w = .ok (.iface 267 (.agg #[.pointer (some ⟨9, 225, none⟩)])) w := by kernel_rfl
theorem assignableW (w : World) : (ReflectliteType.relation "AssignableTo" ReflectliteType.assignableTo #[.agg #[.pointer (some ⟨9, 225, none⟩)], .iface 267 (.agg #[.pointer (some ⟨9, 225, none⟩)])]).run Tryz.prog w = .ok (.bool true) w := by kernel_rfl
theorem valueOfW (e : Int) (w : World) : (ReflectliteValue.unpack (.iface 225 (.agg #[.int .i64 e]))).run Tryz.prog w
    = .ok (.agg #[.pointer (some ⟨9, 225, none⟩), .pointer (some ⟨w.heap.size, 0, none⟩), .int .u64 153]) (w.alloc (.cells #[.int .i64 e] 225)) := by kernel_rfl
theorem elemOfP (w : World) : (Rtype.elem? 227).run Tryz.prog w = .ok (some 225) w := by kernel_rfl
theorem mkW (p : Addr) (w : World) : (ReflectliteValue.mk 225 p ReflectliteValue.flagAddr).run Tryz.prog w = .ok (.agg #[.pointer (some ⟨9, 225, none⟩), .pointer (some p), .int .u64 409]) w := by kernel_rfl
theorem elemVP (a p : Addr) (W : World) (ha : W.cell? a = some (.pointer (some p))) :
    (ReflectliteValue.method (ReflectliteValue.valueError "reflectlite.Value.Elem" 0) ReflectliteValue.elem #[.agg #[.pointer (some ⟨9, 227, none⟩), .pointer (some a), .int .u64 150]]).run Tryz.prog W
      = .ok (.agg #[.pointer (some ⟨9, 225, none⟩), .pointer (some p), .int .u64 409]) W := by
  rw [rlm]
  simp only [Sem.run_bind, partsP, Result.andThen]
  simp [ReflectliteValue.elem, loadVar, isAgg, underlying, Tryz.underlying227, ha, Result.andThen, elemOfP, mkW]
theorem rls (v x : Value) : ReflectliteValue.set #[v, x] = (do
    let (some (dst, a, fl), some (src, b, _)) := (← ReflectliteValue.parts v, ← ReflectliteValue.parts x)
      | unsupported (.noEntry "extern/(internal/reflectlite.Value).Set.zeroValue")
    if fl / ReflectliteValue.flagAddr % 2 == 0 then unsupported (.noEntry "extern/(internal/reflectlite.Value).Set.unaddressable")
    let val ← loadVar src b
    if ← Rtype.directlyAssignable dst src then storeVar dst a val
    else if ← Rtype.implements dst src then
      if (← Rtype.kind src) == 20 then
        match val with
        | .nilIface => unsupported (.noEntry "extern/reflectlite: a nil value of one interface type handed on as a value of another")
        | _ => storeVar dst a val
      else storeVar dst a (.iface src val)
    else panicString ("reflectlite.Set: value of type " ++ (← Rtype.spelt src) ++ " is not assignable to type " ++ (← Rtype.spelt dst))
    pure (.tuple #[])) := rfl
theorem partsWa (a : Addr) (w : World) : (ReflectliteValue.parts (.agg #[.pointer (some ⟨9, 225, none⟩), .pointer (some a), .int .u64 409])).run Tryz.prog w = .ok (some (225, a, 409)) w := by kernel_rfl
theorem partsW (a : Addr) (w : World) : (ReflectliteValue.parts (.agg #[.pointer (some ⟨9, 225, none⟩), .pointer (some a), .int .u64 153])).run Tryz.prog w = .ok (some (225, a, 153)) w := by kernel_rfl
theorem directW (w : World) : (Rtype.directlyAssignable 225 225).run Tryz.prog w = .ok true w := by kernel_rfl
theorem sizeW (w : World) : (sizeOf 225).run Tryz.prog w = .ok 1 w := by kernel_rfl
theorem setW (ta b : Addr) (e : Int) (old : Value) (W : World) (hb : W.cell? b = some (.int .i64 e)) (ht : W.cell? ta = some old) (hf : W.frozen? ta = false) :
    (ReflectliteValue.set #[.agg #[.pointer (some ⟨9, 225, none⟩), .pointer (some ta), .int .u64 409], .agg #[.pointer (some ⟨9, 225, none⟩), .pointer (some b), .int .u64 153]]).run Tryz.prog W
      = .ok (.tuple #[]) (W.setCell ta (.int .i64 e)) := by
  rw [rls]
  simp only [Sem.run_bind, partsWa, partsW, Result.andThen]
  simp [ReflectliteValue.flagAddr, loadVar, isAgg, underlying, Tryz.underlying225, hb, Result.andThen, directW, storeVar, Value.cells, storeCells, Addr.add, sizeW, loadCells, loadCellsFrom]
  rw [run_store Tryz.prog W ta _ _ (by rfl)]
  simp [ht, hf]
set_option maxHeartbeats 4000000 in
theorem as_hit (e : Int) (t : Addr) (old : Value) (w : World) (hg : w.cell? ⟨3, 0, none⟩ = some (.iface 267 (.agg #[.pointer (some ⟨9, 152, none⟩)]))) (ht0 : w.cell? t = some old) (hf0 : w.frozen? t = false) :
    Calls Tryz.prog 184 #[.iface 225 (.agg #[.int .i64 e]), .iface 227 (.pointer (some t))] w fun ev w' => ev = .returned (.bool true) ∧ w' = ((((w.alloc (.cells #[.pointer (some t)] 227)).alloc (.cells #[.pointer (some ⟨9, 227, none⟩), .pointer (some ⟨w.heap.size, 0, none⟩), .int .u64 150] 249)).alloc (.cells #[.pointer (some ⟨9, 227, none⟩), .pointer (some ⟨w.heap.size, 0, none⟩), .int .u64 150] 249)).alloc (.cells #[.int .i64 e] 225)).setCell t (.int .i64 e) := by
  have h6 := @run_callFunc_extern Tryz.prog 205 _ (fun args => ReflectliteValue.unpack (args.getD 0 (.tuple #[]))) Tryz.func205 (by kernel_rfl) (by kernel_rfl) (by kernel_rfl) (by kernel_rfl)
  have h7 := @run_callFunc_extern Tryz.prog 206 _ (ReflectliteValue.methodAny (ReflectliteValue.valueError "reflectlite.Value.Type" 0) (fun t _ _ _ => ReflectliteType.toType t)) Tryz.func206 (by kernel_rfl) (by kernel_rfl) (by kernel_rfl) (by kernel_rfl)
  have h8 := @run_callFunc_extern Tryz.prog 207 _ (ReflectliteValue.method (ReflectliteValue.valueError "reflectlite.Value.IsNil" 0) ReflectliteValue.isNil) Tryz.func207 (by kernel_rfl) (by kernel_rfl) (by kernel_rfl) (by kernel_rfl)
  have h27 := @run_callFunc_extern Tryz.prog 243 _ (ReflectliteType.abiMethod fun t => do pure (.int .u8 (← Rtype.kind t))) Tryz.func243 (by kernel_rfl) (by kernel_rfl) (by kernel_rfl) (by kernel_rfl)
  have h37 := @run_callFunc_extern Tryz.prog 258 _ (ReflectliteType.method ReflectliteType.elem) Tryz.func258 (by kernel_rfl) (by kernel_rfl) (by kernel_rfl) (by kernel_rfl)
  have h38 := @run_callFunc_extern Tryz.prog 259 _ (ReflectliteType.relation "Implements" ReflectliteType.implements_) Tryz.func259 (by kernel_rfl) (by kernel_rfl) (by kernel_rfl) (by kernel_rfl)
  have h10 := @run_callFunc_extern Tryz.prog 222 _ ReflectliteType.typeOf Tryz.func222 (by kernel_rfl) (by kernel_rfl) (by kernel_rfl) (by kernel_rfl)
  have h35 := @run_callFunc_extern Tryz.prog 256 _ (ReflectliteType.relation "AssignableTo" ReflectliteType.assignableTo) Tryz.func256 (by kernel_rfl) (by kernel_rfl) (by kernel_rfl) (by kernel_rfl)
  have h11 := @run_callFunc_extern Tryz.prog 223 _ (ReflectliteValue.method (ReflectliteValue.valueError "reflectlite.Value.Elem" 0) ReflectliteValue.elem) Tryz.func223 (by kernel_rfl) (by kernel_rfl) (by kernel_rfl) (by kernel_rfl)
  have h12 := @run_callFunc_extern Tryz.prog 224 _ ReflectliteValue.set Tryz.func224 (by kernel_rfl) (by kernel_rfl) (by kernel_rfl) (by kernel_rfl)
  have tO := typeOfW
  have mA := methodAssignableTo
  have a25 := assignableW
  have v25 := valueOfW
  have f6 := valueOfP
  have f7 := typeP
  have mK := methodKind
  have mE := methodElem
  have mI := methodImplements
  have k27 := kindP
  have k25 := kindW
  have e27 := elemP
  have i25 := implementsW
  have n8 := isNilP ⟨w.heap.size, 0, none⟩ t ((w.alloc (.cells #[.pointer (some t)] 227)).alloc (.cells #[.pointer (some ⟨9, 227, none⟩), .pointer (some ⟨w.heap.size, 0, none⟩), .int .u64 150] 249)) (by simp)
  have hlt : 3 < w.heap.size := lt_of_cell hg
  have hg2 : ((w.alloc (.cells #[.pointer (some t)] 227)).alloc (.cells #[.pointer (some ⟨9, 227, none⟩), .pointer (some ⟨w.heap.size, 0, none⟩), .int .u64 150] 249)).cell? ⟨3, 0, none⟩ = some (.iface 267 (.agg #[.pointer (some ⟨9, 152, none⟩)])) := by
    rw [World.cell?_alloc_lt _ _ ⟨3, 0, none⟩ (by simp; omega), World.cell?_alloc_lt _ _ ⟨3, 0, none⟩ hlt]; exact hg
  have htl : t.block < w.heap.size := lt_of_cell ht0
  have el := elemVP ⟨w.heap.size, 0, none⟩ t (((w.alloc (.cells #[.pointer (some t)] 227)).alloc (.cells #[.pointer (some ⟨9, 227, none⟩), .pointer (some ⟨w.heap.size, 0, none⟩), .int .u64 150] 249)).alloc (.cells #[.pointer (some ⟨9, 227, none⟩), .pointer (some ⟨w.heap.size, 0, none⟩), .int .u64 150] 249)) (by rw [World.cell?_alloc_lt _ _ ⟨w.heap.size, 0, none⟩ (by simp; omega)]; simp)
  have st := setW t ⟨w.heap.size + 1 + 1 + 1, 0, none⟩ e old ((((w.alloc (.cells #[.pointer (some t)] 227)).alloc (.cells #[.pointer (some ⟨9, 227, none⟩), .pointer (some ⟨w.heap.size, 0, none⟩), .int .u64 150] 249)).alloc (.cells #[.pointer (some ⟨9, 227, none⟩), .pointer (some ⟨w.heap.size, 0, none⟩), .int .u64 150] 249)).alloc (.cells #[.int .i64 e] 225))
    (by rw [World.cell?_alloc_at _ _ _ _ (by simp)]; rfl)
    (by rw [World.cell?_alloc_lt _ _ t (by simp; omega), World.cell?_alloc_lt _ _ t (by simp; omega), World.cell?_alloc_lt _ _ t (by simp; omega), World.cell?_alloc_lt _ _ t htl]; exact ht0)
    (by rw [World.frozen?_alloc_old _ _ t (by simp; omega), World.frozen?_alloc_old _ _ t (by simp; omega), World.frozen?_alloc_old _ _ t (by simp; omega), World.frozen?_alloc_old _ _ t (Nat.ne_of_lt htl)]; exact hf0)
  go_enter Tryz.func184, Tryz.ntmps184
  go_wp2
  refine wp_loop_rounds 1 ?_
  rw [rounds_succ]
  go_wp2
  go_ret
  exact ⟨rfl, rfl⟩
/-- the variable that the row lists: the type of errors -/
def ErrT (w : World) : Prop := w.cell? ⟨3, 0, none⟩ = some (.iface 267 (.agg #[.pointer (some ⟨9, 152, none⟩)]))
theorem ErrT.keep {w w' : World} (h : ErrT w) (k : Keep w w') : ErrT w' := by
  unfold ErrT at *
  rw [k.cell (p := ⟨3, 0, none⟩) (lt_of_cell h) id]; exact h
def errIs : Option Int → Value
  | none => .nilIface
  | some e => .iface 225 (.agg #[.int .i64 e])
set_option maxRecDepth 100000 in
/-- the number of an error -/
theorem number_any (e : Option Int) (w : World) (hg : ErrT w) : Calls Tryz.prog 146 #[errIs e] w fun ev w' => ev = .returned (.int .i64 (e.getD 0)) ∧ Keep w w' := by
  have Hg := Lib.hid hg
  clear hg
  cases e with
  | none =>
    unfold errIs
    go_enter Tryz.func146, Tryz.ntmps146
    go_wp2_with fail
    refine (as_nil _ _).mono ?_
    rintro e w1 ⟨rfl, rfl⟩
    go_wp2_with fail
    go_ret
    exact ⟨rfl, (Mod.refl _ w).alloc _⟩
  | some e =>
    unfold errIs
    go_enter Tryz.func146, Tryz.ntmps146
    go_wp2_with fail
    have HB : RowKit.Hid (World.blk (w.alloc (.cells #[.int .i64 0] 225)) w.heap.size #[.int .i64 0] 225) := Lib.hid (blk_new _ _ _)
    have HG1 : RowKit.Hid (ErrT (w.alloc (.cells #[.int .i64 0] 225))) := Lib.hid (Hg.out.keep ((Mod.refl _ w).alloc _))
    refine (as_hit e ⟨w.heap.size, 0, none⟩ (.int .i64 0) _ HG1.out (blk_cell HB.out 0) (blk_free HB.out _ rfl)).mono ?_
    rintro ev w1 ⟨rfl, h1⟩
    have hm : Mod (· = w.heap.size) (w.alloc (.cells #[.int .i64 0] 225)) w1 := by
      rw [h1]
      exact (((((Mod.refl (fun b => b = w.heap.size) _).alloc _).alloc _).alloc _).alloc _).setCell (p := ⟨w.heap.size, 0, none⟩) (.inl rfl) _
    have hb : w1.cell? ⟨w.heap.size, 0, none⟩ = some (.int .i64 e) := by
      rw [h1]
      exact blk_cell (blk_set (blk_alloc (blk_alloc (blk_alloc (blk_alloc HB.out _) _) _) _) 0 (.int .i64 e)) 0
    have HK : RowKit.Hid (Keep w w1) := Lib.hid (((Mod.refl (fun _ => False) w).alloc _).new hm (Nat.le_refl _))
    clear h1 hm HB HG1
    go_wp2_with fail
    go_ret
    exact ⟨rfl, HK.out⟩
end
section
open Go.RowKit
/-- a reader that stands ahead of s, with what has stopped it -/
abbrev IsRdE (w : World) (r : Nat) (s : List UInt8) (e : Option Int) : Prop := World.blk w r #[.string ⟨s.toArray⟩, errIs e] 191
set_option maxRecDepth 100000 in
theorem wfails_any (s : List UInt8) (x : Option Int) (y : Int) (r : Nat) (w : World) (h : IsRdE w r s x) : Calls Tryz.prog 147 #[.pointer (some ⟨r, 0, none⟩), .int .i64 y] w fun e w' => e = .returned (.int .i64 y) ∧ IsRdE w' r s (some y) ∧ Mod (· = r) w w' := by
  have c1 : w.cell? ⟨r, 1, none⟩ = some (errIs x) := blk_cell h 1
  have f1 : w.frozen? ⟨r, 1, none⟩ = false := blk_free h _ rfl
  have H := Lib.hid h
  clear h
  go_enter Tryz.func147, Tryz.ntmps147
  go_wp2_with fail
  go_ret
  exact ⟨rfl, blk_set H.out 1 _, (Mod.refl (fun x => x = r) w).setCell (p := ⟨r, 1, none⟩) (.inl rfl) _⟩
/-- something was read -/
def SomeNum (w : World) (r : Nat) (s : List UInt8) (e : Ending) (w' : World) : Prop :=
  ∃ (n y : Int) (s' : List UInt8) (x : Option Int), e = .returned (.tuple #[.int .i64 n, .int .i64 y]) ∧ IsRdE w' r s' x ∧ Mod (· = r) w w' ∧ s'.length ≤ s.length ∧ 0 ≤ n ∧ n ≤ 4611686018427387903
set_option maxRecDepth 100000 in
theorem wnum_bad (s : List UInt8) (y most : Int) (r : Nat) (w : World) (h : IsRdE w r s (some y)) (hg : ErrT w) :
    Calls Tryz.prog 112 #[.pointer (some ⟨r, 0, none⟩), .int .i64 most] w fun e w' => e = .returned (.tuple #[.int .i64 0, .int .i64 y]) ∧ Keep w w' := by
  have c1 : w.cell? ⟨r, 1, none⟩ = some (.iface 225 (.agg #[.int .i64 y])) := blk_cell h 1
  have hn := number_any (some y) w hg
  have Hn := Lib.hid hn
  clear h hg hn
  go_enter Tryz.func112, Tryz.ntmps112
  go_wp2_with fail
  refine Hn.out.mono ?_
  rintro e w1 ⟨rfl, hk⟩
  have HK := Lib.hid hk
  clear hk
  go_wp2_with fail
  go_ret2
  exact ⟨rfl, HK.out⟩
theorem bits_range (o : BinOp) (a b : Int) : -9223372036854775808 ≤ bits o .i64 a b ∧ bits o .i64 a b ≤ 9223372036854775807 := by
  unfold bits
  rw [IntKind.wrap_i64]
  omega
set_option maxRecDepth 100000 in
set_option maxHeartbeats 16000000 in
theorem wnum_some (L : List UInt8) (most : Int) (r : Nat) (w : World) (h : IsRdE w r L none) (hL : L.length ≤ 1099511627776) :
    Calls Tryz.prog 112 #[.pointer (some ⟨r, 0, none⟩), .int .i64 most] w (SomeNum w r L) := by
  have H := Lib.hid h
  have c0 : w.cell? ⟨r, 0, none⟩ = some (.string ⟨L.toArray⟩) := blk_cell h 0
  have c1 : w.cell? ⟨r, 1, none⟩ = some .nilIface := blk_cell h 1
  have f0 : w.frozen? ⟨r, 0, none⟩ = false := blk_free h _ rfl
  have hLl : (L.length : Int) ≤ 9223372036854775807 := by omega
  clear h
  go_enter Tryz.func112, Tryz.ntmps112
  go_wp2_with fail
  go_loop [6, 7, 8] (fun a o i => ∃ (k : Nat) (acc : Int) (ov : Bool), k ≤ 9 ∧ k ≤ L.length ∧ i = .int .i64 (k : Int) ∧ a = .int .i64 acc ∧ o = .bool ov ∧ -9223372036854775808 ≤ acc ∧ acc ≤ 9223372036854775807) (fun _ _ i => (10 - intOf i).toNat)
  case atStart => exact ⟨0, 0, false, by omega, by omega, rfl, rfl, rfl, by omega, by omega⟩
  case round =>
    obtain ⟨k, acc, ov, hk, hkl, rfl, rfl, rfl, ha0, ha1⟩ := hrel
    by_cases hend : k = L.length
    · have hl : ((k : Int) == (L.length : Int)) = true := by rw [beq_iff_eq]; omega
      clear hend
      go_wp2_with fail
      refine (wfails_any L none 32 r _ H.out).mono ?_
      rintro e w2 ⟨rfl, h2, hm2⟩
      have H2 := Lib.hid h2
      have HM2 := Lib.hid hm2
      clear h2 hm2
      go_wp2_with fail
      go_ret2
      exact ⟨0, 32, L, _, rfl, H2.out, HM2.out, Nat.le_refl _, by omega, by omega⟩
    · have hl : ((k : Int) == (L.length : Int)) = false := by rw [beq_eq_false_iff_ne]; omega
      by_cases h9 : k = 9
      · have h9' : ((k : Int) == 9) = true := by rw [beq_iff_eq]; omega
        clear hend h9
        go_wp2_with fail
        refine (wfails_any L none 30 r _ H.out).mono ?_
        rintro e w2 ⟨rfl, h2, hm2⟩
        have H2 := Lib.hid h2
        have HM2 := Lib.hid hm2
        clear h2 hm2
        go_wp2_with fail
        go_ret2
        exact ⟨0, 30, L, _, rfl, H2.out, HM2.out, Nat.le_refl _, by omega, by omega⟩
      · have h9' : ((k : Int) == 9) = false := by rw [beq_eq_false_iff_ne]; omega
        have hLL : k < L.length := by omega
        clear hend
        obtain ⟨c, hc⟩ : ∃ c, L[k]? = some c := ⟨_, List.getElem?_eq_getElem hLL⟩
        have hix : ∀ W, (Instr.index 9 (.string ⟨L.toArray⟩) (.int .i64 (k : Int))).run Tryz.prog W = .ok (.int .u8 (c.toNat : Int)) W := fun W => run_index_str Tryz.underlying9 L .i64 k c (by omega) hc W
        obtain ⟨cn, hcn⟩ : ∃ cn : Nat, c.toNat = cn := ⟨_, rfl⟩
        rw [hcn] at hix
        have hc256 : cn < 256 := by rw [← hcn]; exact c.toNat_lt
        clear hc hcn
        have hw7 : IntKind.i64.wrap (7 * (k : Int)) = 7 * (k : Int) := by rw [IntKind.wrap_i64]; omega
        by_cases hz : cn = 0 ∧ 0 < k
        · obtain ⟨rfl, hk0⟩ := hz
          have hk1 : (0 : Int) < k := by omega
          go_wp2_with fail
          refine (wfails_any L none 30 r _ H.out).mono ?_
          rintro e w2 ⟨rfl, h2, hm2⟩
          have H2 := Lib.hid h2
          have HM2 := Lib.hid hm2
          clear h2 hm2
          go_wp2_with fail
          go_ret2
          exact ⟨0, 30, L, _, rfl, H2.out, HM2.out, Nat.le_refl _, by omega, by omega⟩
        · rcases (by omega : (k = 0 ∧ cn = 0) ∨ (k = 0 ∧ cn ≠ 0) ∨ (0 < k ∧ cn ≠ 0)) with ⟨hk0, hc0⟩ | ⟨hk0, hc0⟩ | ⟨hk0, hc0⟩
          all_goals
            first
              | (have hm0 : ((cn : Int) == 0) = true := by (rw [beq_iff_eq]; omega))
              | (have hm0 : ((cn : Int) == 0) = false := by (rw [beq_eq_false_iff_ne]; omega))
            first
              | (have hk1 : ¬ (0 : Int) < k := by omega)
              | (have hk1 : (0 : Int) < k := by omega)
            have hk8 : k ≤ 8 := by omega
            clear hz hk0 hc0 h9
            obtain ⟨V, hV⟩ : ∃ V : Int, bits .or .i64 acc (wrap64 ((cn : Int) % 128 * 2 ^ (7 * k))) = V := ⟨_, rfl⟩
            have hVr : -9223372036854775808 ≤ V ∧ V ≤ 9223372036854775807 := by rw [← hV]; exact bits_range _ _ _
            by_cases hb : (128 : Int) ≤ cn
            · cases ov with
              | true =>
                go_wp2_with fail
                exact ⟨⟨k + 1, V, true, by omega, by omega, by go_num, rfl, rfl, hVr.1, hVr.2⟩, by simp [intOf]; omega⟩
              | false =>
                by_cases hV1 : (4611686018427387903 : Int) < V
                · go_wp2_with fail
                  exact ⟨⟨k + 1, V, true, by omega, by omega, by go_num, rfl, rfl, hVr.1, hVr.2⟩, by simp [intOf]; omega⟩
                · by_cases hV0 : V < 0
                  · go_wp2_with fail
                    exact ⟨⟨k + 1, V, true, by omega, by omega, by go_num, rfl, rfl, hVr.1, hVr.2⟩, by simp [intOf]; omega⟩
                  · go_wp2_with fail
                    exact ⟨⟨k + 1, V, false, by omega, by omega, by go_num, rfl, rfl, hVr.1, hVr.2⟩, by simp [intOf]; omega⟩
            · cases ov with
              | true =>
                go_wp2_with fail
                refine (wfails_any (L.drop (k + 1)) none 31 r _ (blk_set H.out 0 _)).mono ?_
                rintro e w2 ⟨rfl, h2, hm2⟩
                have H2 := Lib.hid h2
                have HM2 : RowKit.Hid (Mod (· = r) w w2) := Lib.hid (((Mod.refl (fun x => x = r) w).setCell (p := ⟨r, 0, none⟩) (.inl rfl) _).trans hm2 (fun _ _ h => h))
                clear h2 hm2
                go_wp2_with fail
                go_ret2
                exact ⟨0, 31, _, _, rfl, H2.out, HM2.out, by simp, by omega, by omega⟩
              | false =>
                by_cases hV1 : (4611686018427387903 : Int) < V
                · go_wp2_with fail
                  refine (wfails_any (L.drop (k + 1)) none 31 r _ (blk_set H.out 0 _)).mono ?_
                  rintro e w2 ⟨rfl, h2, hm2⟩
                  have H2 := Lib.hid h2
                  have HM2 : RowKit.Hid (Mod (· = r) w w2) := Lib.hid (((Mod.refl (fun x => x = r) w).setCell (p := ⟨r, 0, none⟩) (.inl rfl) _).trans hm2 (fun _ _ h => h))
                  clear h2 hm2
                  go_wp2_with fail
                  go_ret2
                  exact ⟨0, 31, _, _, rfl, H2.out, HM2.out, by simp, by omega, by omega⟩
                · by_cases hV0 : V < 0
                  · go_wp2_with fail
                    refine (wfails_any (L.drop (k + 1)) none 31 r _ (blk_set H.out 0 _)).mono ?_
                    rintro e w2 ⟨rfl, h2, hm2⟩
                    have H2 := Lib.hid h2
                    have HM2 : RowKit.Hid (Mod (· = r) w w2) := Lib.hid (((Mod.refl (fun x => x = r) w).setCell (p := ⟨r, 0, none⟩) (.inl rfl) _).trans hm2 (fun _ _ h => h))
                    clear h2 hm2
                    go_wp2_with fail
                    go_ret2
                    exact ⟨0, 31, _, _, rfl, H2.out, HM2.out, by simp, by omega, by omega⟩
                  · by_cases hm : most < V
                    · go_wp2_with fail
                      refine (wfails_any (L.drop (k + 1)) none 31 r _ (blk_set H.out 0 _)).mono ?_
                      rintro e w2 ⟨rfl, h2, hm2⟩
                      have H2 := Lib.hid h2
                      have HM2 : RowKit.Hid (Mod (· = r) w w2) := Lib.hid (((Mod.refl (fun x => x = r) w).setCell (p := ⟨r, 0, none⟩) (.inl rfl) _).trans hm2 (fun _ _ h => h))
                      clear h2 hm2
                      go_wp2_with fail
                      go_ret2
                      exact ⟨0, 31, _, _, rfl, H2.out, HM2.out, by simp, by omega, by omega⟩
                    · go_wp2_with fail
                      go_ret2
                      exact ⟨V, 0, L.drop (k + 1), none, rfl, blk_set H.out 0 _, (Mod.refl (fun x => x = r) w).setCell (p := ⟨r, 0, none⟩) (.inl rfl) _, by simp, by omega, by omega⟩
theorem wnumE_any (L : List UInt8) (x : Option Int) (most : Int) (r : Nat) (w : World) (h : IsRdE w r L x) (hL : L.length ≤ 1099511627776) (hg : ErrT w) :
    Calls Tryz.prog 112 #[.pointer (some ⟨r, 0, none⟩), .int .i64 most] w (SomeNum w r L) := by
  cases x with
  | none => exact wnum_some L most r w h hL
  | some y =>
    refine (wnum_bad L y most r w h hg).mono ?_
    rintro e w' ⟨rfl, hk⟩
    exact ⟨0, y, L, some y, rfl, blk_mod hk h id, hk.mono (fun _ _ h => h.elim), Nat.le_refl _, by omega, by omega⟩
/-- a text was read -/
def SomeText (w : World) (r : Nat) (s : List UInt8) (e : Ending) (w' : World) : Prop :=
  ∃ (t : List UInt8) (y : Int) (s' : List UInt8) (x : Option Int), e = .returned (.tuple #[.string ⟨t.toArray⟩, .int .i64 y]) ∧ IsRdE w' r s' x ∧ Mod (· = r) w w' ∧ s'.length ≤ s.length ∧ t.length ≤ s.length
set_option maxRecDepth 100000 in
set_option maxHeartbeats 4000000 in
theorem wtextE_any (L : List UInt8) (x : Option Int) (most : Int) (r : Nat) (w : World) (h : IsRdE w r L x) (hL : L.length ≤ 1099511627776) (hg : ErrT w) :
    Calls Tryz.prog 148 #[.pointer (some ⟨r, 0, none⟩), .int .i64 most] w (SomeText w r L) := by
  have hcall : ∀ m, Calls Tryz.prog 112 #[.pointer (some ⟨r, 0, none⟩), .int .i64 m] w (SomeNum w r L) := fun m => wnumE_any L x m r w h hL hg
  have HC := Lib.hid hcall
  clear h hg hcall
  go_enter Tryz.func148, Tryz.ntmps148
  go_wp2_with fail
  refine (HC.out _).mono ?_
  rintro e w1 ⟨n, y, s1, x1, rfl, h1, hm1, hs1, hn0, hn1⟩
  have H1 := Lib.hid h1
  have HM1 := Lib.hid hm1
  have c0 : w1.cell? ⟨r, 0, none⟩ = some (.string ⟨s1.toArray⟩) := blk_cell h1 0
  have c1 : w1.cell? ⟨r, 1, none⟩ = some (errIs x1) := blk_cell h1 1
  have f0 : w1.frozen? ⟨r, 0, none⟩ = false := blk_free h1 _ rfl
  clear h1 hm1
  by_cases hy : y = 0
  · subst hy
    obtain ⟨N, rfl⟩ : ∃ N : Nat, n = N := ⟨n.toNat, by omega⟩
    by_cases hb : (s1.length : Int) < N
    · go_wp2_with fail
      refine (wfails_any s1 x1 32 r _ H1.out).mono ?_
      rintro e w2 ⟨rfl, h2, hm2⟩
      have H2 := Lib.hid h2
      have HM2 := Lib.hid (HM1.out.trans hm2 (fun _ _ h => h))
      clear h2 hm2
      go_wp2_with fail
      go_ret2
      exact ⟨[], 32, s1, _, rfl, H2.out, HM2.out, hs1, by simp⟩
    · have hle : (N : Int) ≤ s1.length := by omega
      have hN0 : (0 : Int) ≤ N := by omega
      go_wp2_with fail
      go_ret2
      exact ⟨s1.take N, 0, s1.drop N, x1, rfl, blk_set H1.out 0 _, HM1.out.setCell (p := ⟨r, 0, none⟩) (.inl rfl) _, by simp; omega, by simp; omega⟩
  · have hy0 : (y == 0) = false := beq_false_of_ne hy
    have hy1 : (y != 0) = true := bne_iff_ne.2 hy
    go_wp2_with fail
    go_ret2
    exact ⟨[], y, s1, x1, rfl, H1.out, HM1.out, hs1, by simp⟩
set_option maxRecDepth 100000 in
set_option maxHeartbeats 4000000 in
theorem tnumE_any (L : List UInt8) (x : Option Int) (most : Int) (r : Nat) (w : World) (h : IsRdE w r L x) (hL : L.length ≤ 1099511627776) (hg : ErrT w) :
    Calls Tryz.prog 118 #[.pointer (some ⟨r, 0, none⟩), .int .i64 most] w fun e w' => ∃ (n : Int) (s' : List UInt8) (x' : Option Int), e = .returned (.int .i64 n) ∧ IsRdE w' r s' x' ∧ Mod (· = r) w w' ∧ s'.length ≤ L.length ∧ 0 ≤ n ∧ n ≤ 4611686018427387903 := by
  have HC := Lib.hid (wnumE_any L x most r w h hL hg)
  clear h hg
  go_enter Tryz.func118, Tryz.ntmps118
  go_wp2_with fail
  refine HC.out.mono ?_
  rintro e w1 ⟨n, y, s1, x1, rfl, h1, hm1, hs1, hn0, hn1⟩
  have H1 := Lib.hid h1
  have HM1 := Lib.hid hm1
  clear h1 hm1
  go_wp2_with fail
  go_ret
  exact ⟨n, s1, x1, rfl, H1.out, HM1.out, hs1, hn0, hn1⟩
set_option maxRecDepth 100000 in
set_option maxHeartbeats 4000000 in
theorem ttextE_any (L : List UInt8) (x : Option Int) (r : Nat) (w : World) (h : IsRdE w r L x) (hL : L.length ≤ 1099511627776) (hg : ErrT w) :
    Calls Tryz.prog 117 #[.pointer (some ⟨r, 0, none⟩)] w fun e w' => ∃ (t s' : List UInt8) (x' : Option Int), e = .returned (.string ⟨t.toArray⟩) ∧ IsRdE w' r s' x' ∧ Mod (· = r) w w' ∧ s'.length ≤ L.length ∧ t.length ≤ L.length := by
  have HC := Lib.hid (fun m => wtextE_any L x m r w h hL hg)
  clear h hg
  go_enter Tryz.func117, Tryz.ntmps117
  go_wp2_with fail
  refine (HC.out _).mono ?_
  rintro e w1 ⟨t, y, s1, x1, rfl, h1, hm1, hs1, ht⟩
  have H1 := Lib.hid h1
  have HM1 := Lib.hid hm1
  clear h1 hm1
  go_wp2_with fail
  go_ret
  exact ⟨t, s1, x1, rfl, H1.out, HM1.out, hs1, ht⟩
theorem errT_reader {w w' : World} {r : Nat} {s : List UInt8} {x : Option Int} (h : ErrT w) (hr : IsRdE w r s x) (m : Mod (· = r) w w') : ErrT w' := by
  have hne : ¬ 3 = r := fun e => by
    have h1 := blk_cell hr 0
    unfold ErrT at h
    rw [← e, h] at h1; cases h1
  unfold ErrT at *
  rw [m.cell (p := ⟨3, 0, none⟩) (lt_of_cell h) hne]; exact h
set_option maxRecDepth 100000 in
set_option maxHeartbeats 4000000 in
theorem rentE_any (L : List UInt8) (x : Option Int) (r : Nat) (w : World) (h : IsRdE w r L x) (hL : L.length ≤ 1099511627776) (hg : ErrT w) :
    Calls Tryz.prog 116 #[.pointer (some ⟨r, 0, none⟩)] w fun e w' => ∃ (p : List UInt8 × Int) (s' : List UInt8) (x' : Option Int), e = .returned (entV p) ∧ IsRdE w' r s' x' ∧ Mod (· = r) w w' ∧ s'.length ≤ L.length ∧ p.1.length ≤ L.length ∧ 0 ≤ p.2 ∧ p.2 ≤ 4611686018427387903 := by
  have hrl := blk_lt h
  have H := Lib.hid h
  have Hg := Lib.hid hg
  clear h hg
  go_enter Tryz.func116, Tryz.ntmps116
  go_wp2_with fail
  refine (ttextE_any L x r _ (blk_alloc H.out _) hL (Hg.out.keep ((Mod.refl _ w).alloc _))).mono ?_
  rintro e w1 ⟨s, s1, x1, rfl, h1, hm1, hs1, hsl⟩
  have H1 := Lib.hid h1
  have HZ1 : RowKit.Hid (World.blk w1 w.heap.size #[.string ⟨#[]⟩, .int .i64 0] 98) := Lib.hid (blk_mod hm1 (blk_new _ _ _) (by omega))
  have HM1 : RowKit.Hid (Mod (· = r) w w1) := Lib.hid (((Mod.refl (fun x => x = r) w).alloc _).trans hm1 (fun _ _ h => h))
  have Hg1 : RowKit.Hid (ErrT w1) := Lib.hid (errT_reader Hg.out H.out HM1.out)
  clear h1 hm1
  go_wp2_with fail
  refine (tnumE_any s1 x1 65535 r w1 H1.out (by omega) Hg1.out).mono ?_
  rintro e w2 ⟨m, s2, x2, rfl, h2, hm2, hs2, hm0, hm9⟩
  have H2 := Lib.hid h2
  have HZ2 := Lib.hid (blk_mod hm2 HZ1.out (by omega))
  have HM2 := Lib.hid (HM1.out.trans hm2 (fun _ _ h => h))
  clear h2 hm2 HZ1 HM1 H1
  obtain ⟨N, hN⟩ : ∃ N, w.heap.size = N := ⟨_, rfl⟩
  have HN := Lib.hid hN
  rw [hN] at HZ2 hrl
  rw [hN]
  clear hN
  have y0 : w2.frozen? ⟨N, 0, none⟩ = false := blk_free HZ2.out _ rfl
  have y1 : w2.frozen? ⟨N, 1, none⟩ = false := blk_free HZ2.out _ rfl
  have z0 : w2.cell? ⟨N, 0, none⟩ = some (.string ⟨#[]⟩) := blk_cell HZ2.out 0
  have z1 : w2.cell? ⟨N, 1, none⟩ = some (.int .i64 0) := blk_cell HZ2.out 1
  go_wp2_with fail
  have hB := blk_set (blk_set HZ2.out 0 (.string ⟨s.toArray⟩)) 1 (.int .i64 (m : Int))
  have h3 : IsRdE ((w2.setCell ⟨N, 0, none⟩ (.string ⟨s.toArray⟩)).setCell ⟨N, 1, none⟩ (.int .i64 (m : Int))) r s2 x2 := blk_set_other (blk_set_other H2.out ⟨N, 0, none⟩ (by simp; omega) _) ⟨N, 1, none⟩ (by simp; omega) _
  have k3 : Mod (· = r) w ((w2.setCell ⟨N, 0, none⟩ (.string ⟨s.toArray⟩)).setCell ⟨N, 1, none⟩ (.int .i64 (m : Int))) := (HM2.out.setCell (p := ⟨N, 0, none⟩) (.inr (by rw [HN.out]; exact Nat.le_refl _)) _).setCell (p := ⟨N, 1, none⟩) (.inr (by rw [HN.out]; exact Nat.le_refl _)) _
  have H3 := Lib.hid h3
  have K3 := Lib.hid k3
  clear h3 k3 y0 y1 z0 z1
  generalize ((w2.setCell ⟨N, 0, none⟩ (.string ⟨s.toArray⟩)).setCell ⟨N, 1, none⟩ (.int .i64 (m : Int))) = w3 at *
  have q0 : w3.cell? ⟨N, 0, none⟩ = some (.string ⟨s.toArray⟩) := blk_cell hB 0
  have q1 : w3.cell? ⟨N, 1, none⟩ = some (.int .i64 (m : Int)) := blk_cell hB 1
  exact bodyPost_ret (v := entV (s, m)) (by simp [results, Tryz.results116, go_sem, q0, q1]) rfl ⟨(s, m), s2, x2, rfl, H3.out, K3.out, by omega, hsl, hm0, hm9⟩
set_option maxRecDepth 100000 in
set_option maxHeartbeats 4000000 in
theorem rendE_any (s : List UInt8) (x : Option Int) (r : Nat) (w : World) (h : IsRdE w r s x) (hg : ErrT w) : Calls Tryz.prog 113 #[.pointer (some ⟨r, 0, none⟩)] w fun e w' => ∃ y, e = .returned (.int .i64 y) ∧ Keep w w' := by
  have c0 : w.cell? ⟨r, 0, none⟩ = some (.string ⟨s.toArray⟩) := blk_cell h 0
  have c1 : w.cell? ⟨r, 1, none⟩ = some (errIs x) := blk_cell h 1
  have Hn := Lib.hid (fun y => number_any (some y) w hg)
  clear h hg
  cases x with
  | none =>
    have c1' : w.cell? ⟨r, 1, none⟩ = some .nilIface := c1
    clear c1
    by_cases hs : s = []
    · have hq : (s == []) = true := beq_iff_eq.2 hs
      clear hs
      go_enter Tryz.func113, Tryz.ntmps113
      go_wp2_with fail
      go_ret
      exact ⟨_, rfl, Mod.refl _ _⟩
    · have hq : (s == []) = false := beq_false_of_ne hs
      clear hs
      go_enter Tryz.func113, Tryz.ntmps113
      go_wp2_with fail
      go_ret
      exact ⟨_, rfl, Mod.refl _ _⟩
  | some y =>
    have c1' : w.cell? ⟨r, 1, none⟩ = some (.iface 225 (.agg #[.int .i64 y])) := c1
    clear c1
    go_enter Tryz.func113, Tryz.ntmps113
    go_wp2_with fail
    refine (Hn.out y).mono ?_
    rintro e w1 ⟨rfl, hk⟩
    have HK := Lib.hid hk
    clear hk
    go_wp2_with fail
    go_ret
    exact ⟨_, rfl, HK.out⟩
end
section
open Go.RowKit
theorem ent_prev {l : Nm} {j : Nat} {y x : List UInt8 × Int} (hy : l[j]? = some y) : entB (lastOf none (l.take (j + 1))) x = (nameOk x.1 && bytesBefore y.1 x.1 && decide (1 ≤ x.2) && decide (x.2 ≤ 65535)) := by
  rw [take_snoc hy]; simp [entB, lastOf]
set_option maxRecDepth 100000 in
set_option maxHeartbeats 16000000 in
theorem rentries_gen (l : Nm) (v : Value) (w : World) (hrow : RowF entC 2 w v l) (hs : ∀ p ∈ l, p.1.length ≤ 65536 ∧ -9223372036854775808 ≤ p.2 ∧ p.2 ≤ 9223372036854775807) (hll : l.length ≤ 1000000000) :
    Calls Tryz.prog 60 #[v] w fun e w' => e = .returned (laysR l) ∧ Keep w w' := by
  obtain ⟨va, vcap, rfl, hx⟩ := hrow
  have HX := Lib.hid hx
  have HS := Lib.hid hs
  clear hx hs
  by_cases hl : l.length ≤ 4096
  · have hli : ¬ (4096 : Int) < l.length := by omega
    clear hll
    go_enter Tryz.func60, Tryz.ntmps60
    go_wp2_with fail
    refine (rnums_any [l.length] _ _ (by simp; omega) (by simp) (fun j n hj => ?_)).mono ?_
    · obtain ⟨rfl, rfl⟩ : j = 0 ∧ n = l.length := by
        cases j <;> simp at hj
        exact ⟨rfl, hj.symm⟩
      exact blk_cell (blk_new _ _ _) 0
    rintro e w1 ⟨rfl, hk1⟩
    have HK1 := Lib.hid (unalloc hk1)
    have hlim : (encN l.length).length ≤ 9 := encN_9 (by omega)
    clear hk1
    go_wp2_with fail
    go_loopw [4, 5] (fun v i wr => ∃ (k : Nat) (pre : List UInt8), k ≤ l.length ∧ i = .int .i64 (k : Int) ∧ v = .string ⟨pre.toArray⟩ ∧ RowKit.Hid (pre = encN l.length ++ (l.take k).flatMap encE1) ∧ RowKit.Hid (entsB none (l.take k) = true) ∧ Keep w wr) (fun _ i _ => l.length - (intOf i).toNat)
    case atStart => exact ⟨0, _, by omega, rfl, rfl, Lib.hid (by simp), Lib.hid rfl, HK1.out⟩
    case round =>
      obtain ⟨k, pre, hk, rfl, rfl, Hp, He, hK⟩ := hrel
      have HK := Lib.hid hK
      clear hK
      by_cases hlt : k < l.length
      · obtain ⟨x, hx⟩ : ∃ x, l[k]? = some x := ⟨_, List.getElem?_eq_getElem hlt⟩
        obtain ⟨b, o, rfl, hc⟩ := HX.out k x hx
        have c0 : wr.cell? ⟨b, o + k * 2, none⟩ = some (.string ⟨x.1.toArray⟩) := by have h := hc 0 _ rfl; rw [HK.out.cell (p := ⟨b, o + k * 2, none⟩) (lt_of_cell h) id]; exact h
        have c1 : wr.cell? ⟨b, o + k * 2 + 1, none⟩ = some (.int .i64 x.2) := by have h := hc 1 _ rfl; rw [HK.out.cell (p := ⟨b, o + k * 2 + 1, none⟩) (lt_of_cell h) id]; exact h
        have Hx := Lib.hid hx
        have hxl := (HS.out x (List.mem_of_getElem? hx)).1
        have hkl : (k : Int) < l.length := by omega
        clear hc
        by_cases hk0 : k = 0
        · subst hk0
          rw [Nat.zero_mul, Nat.add_zero] at c0 c1
          have Heb : RowKit.Hid (entB (lastOf none (l.take 0)) x = (nameOk x.1 && decide (1 ≤ x.2) && decide (x.2 ≤ 65535))) := Lib.hid (by simp [entB, lastOf])
          cases hn : nameOk x.1 with
          | false =>
            have Hv : RowKit.Hid (laysR l = .tuple #[.string ⟨#[]⟩, .int .i64 120]) := Lib.hid (by
              have h := entsB_no Hx.out (Heb.out.trans (by simp [hn]))
              simp [laysR, h])
            clear Heb He Hp
            have hcall : ∀ W : World, Calls Tryz.prog 77 #[.string ⟨x.1.toArray⟩] W fun e w' => e = .returned (.bool false) ∧ w' = W := fun W => by
              have h := rname_any x.1 W (by omega)
              rw [hn] at h; exact h.mono fun _ _ ⟨a, b⟩ => ⟨a, b.symm⟩
            clear hn
            go_wp2_with fail
            have HBx : RowKit.Hid (World.blk (wr.alloc (.cells #[.string ⟨x.1.toArray⟩, .int .i64 x.2] 98)) wr.heap.size #[.string ⟨x.1.toArray⟩, .int .i64 x.2] 98) := Lib.hid (blk_new _ _ _)
            have HKx : RowKit.Hid (Keep wr (wr.alloc (.cells #[.string ⟨x.1.toArray⟩, .int .i64 x.2] 98))) := Lib.hid ((Mod.refl _ wr).alloc _)
            generalize wr.alloc (.cells #[.string ⟨x.1.toArray⟩, .int .i64 x.2] 98) = wa at *
            have e0 : wa.cell? ⟨wr.heap.size, 0, none⟩ = some (.string ⟨x.1.toArray⟩) := blk_cell HBx.out 0
            have e1 : wa.cell? ⟨wr.heap.size, 1, none⟩ = some (.int .i64 x.2) := blk_cell HBx.out 1
            obtain ⟨xb, hxb⟩ : ∃ xb, wr.heap.size = xb := ⟨_, rfl⟩
            rw [hxb] at HBx e0 e1
            rw [hxb]
            clear c0 c1 hxb
            refine wp_region_qe0 (by kernel_rfl) (by kernel_rfl) ?_
            repeat (go_big_quiet_step ((exact Calls.quiet_of_same (hcall _))))
            refine wpQuiet_nil ?_
            intro _ hw'
            obtain ⟨nq, rfl⟩ := hw'
            go_wp2_with fail
            go_ret2
            exact ⟨by rw [Hv.out]; rfl, (HK.out.keep HKx.out).drewN _⟩
          | true =>
            by_cases hx1 : x.2 < 1
            · have hd0 : decide (1 ≤ x.2) = false := decide_eq_false (by omega)
              have Hv : RowKit.Hid (laysR l = .tuple #[.string ⟨#[]⟩, .int .i64 120]) := Lib.hid (by
                have h := entsB_no Hx.out (Heb.out.trans (by simp [hd0]))
                simp [laysR, h])
              clear Heb He Hp
              clear hd0
              have hd1 : decide (x.2 < 1) = true := decide_eq_true hx1
              have hcall : ∀ W : World, Calls Tryz.prog 77 #[.string ⟨x.1.toArray⟩] W fun e w' => e = .returned (.bool true) ∧ w' = W := fun W => by
                have h := rname_any x.1 W (by omega)
                rw [hn] at h; exact h.mono fun _ _ ⟨a, b⟩ => ⟨a, b.symm⟩
              clear hn
              go_wp2_with fail
              have HBx : RowKit.Hid (World.blk (wr.alloc (.cells #[.string ⟨x.1.toArray⟩, .int .i64 x.2] 98)) wr.heap.size #[.string ⟨x.1.toArray⟩, .int .i64 x.2] 98) := Lib.hid (blk_new _ _ _)
              have HKx : RowKit.Hid (Keep wr (wr.alloc (.cells #[.string ⟨x.1.toArray⟩, .int .i64 x.2] 98))) := Lib.hid ((Mod.refl _ wr).alloc _)
              generalize wr.alloc (.cells #[.string ⟨x.1.toArray⟩, .int .i64 x.2] 98) = wa at *
              have e0 : wa.cell? ⟨wr.heap.size, 0, none⟩ = some (.string ⟨x.1.toArray⟩) := blk_cell HBx.out 0
              have e1 : wa.cell? ⟨wr.heap.size, 1, none⟩ = some (.int .i64 x.2) := blk_cell HBx.out 1
              obtain ⟨xb, hxb⟩ : ∃ xb, wr.heap.size = xb := ⟨_, rfl⟩
              rw [hxb] at HBx e0 e1
              rw [hxb]
              clear c0 c1 hxb
              refine wp_region_qe0 (by kernel_rfl) (by kernel_rfl) ?_
              repeat (go_big_quiet_step ((exact Calls.quiet_of_same (hcall _))))
              refine wpQuiet_nil ?_
              intro _ hw'
              obtain ⟨nq, rfl⟩ := hw'
              go_wp2_with fail
              go_ret2
              exact ⟨by rw [Hv.out]; rfl, (HK.out.keep HKx.out).drewN _⟩
            · have hd1 : decide (x.2 < 1) = false := decide_eq_false hx1
              by_cases hx2 : 65535 < x.2
              · have hd0 : decide (x.2 ≤ 65535) = false := decide_eq_false (by omega)
                have Hv : RowKit.Hid (laysR l = .tuple #[.string ⟨#[]⟩, .int .i64 120]) := Lib.hid (by
                  have h := entsB_no Hx.out (Heb.out.trans (by simp [hd0]))
                  simp [laysR, h])
                clear Heb He Hp
                clear hd0
                have hd2 : decide (65535 < x.2) = true := decide_eq_true hx2
                have hcall : ∀ W : World, Calls Tryz.prog 77 #[.string ⟨x.1.toArray⟩] W fun e w' => e = .returned (.bool true) ∧ w' = W := fun W => by
                  have h := rname_any x.1 W (by omega)
                  rw [hn] at h; exact h.mono fun _ _ ⟨a, b⟩ => ⟨a, b.symm⟩
                clear hn
                go_wp2_with fail
                have HBx : RowKit.Hid (World.blk (wr.alloc (.cells #[.string ⟨x.1.toArray⟩, .int .i64 x.2] 98)) wr.heap.size #[.string ⟨x.1.toArray⟩, .int .i64 x.2] 98) := Lib.hid (blk_new _ _ _)
                have HKx : RowKit.Hid (Keep wr (wr.alloc (.cells #[.string ⟨x.1.toArray⟩, .int .i64 x.2] 98))) := Lib.hid ((Mod.refl _ wr).alloc _)
                generalize wr.alloc (.cells #[.string ⟨x.1.toArray⟩, .int .i64 x.2] 98) = wa at *
                have e0 : wa.cell? ⟨wr.heap.size, 0, none⟩ = some (.string ⟨x.1.toArray⟩) := blk_cell HBx.out 0
                have e1 : wa.cell? ⟨wr.heap.size, 1, none⟩ = some (.int .i64 x.2) := blk_cell HBx.out 1
                obtain ⟨xb, hxb⟩ : ∃ xb, wr.heap.size = xb := ⟨_, rfl⟩
                rw [hxb] at HBx e0 e1
                rw [hxb]
                clear c0 c1 hxb
                refine wp_region_qe0 (by kernel_rfl) (by kernel_rfl) ?_
                repeat (go_big_quiet_step ((exact Calls.quiet_of_same (hcall _))))
                refine wpQuiet_nil ?_
                intro _ hw'
                obtain ⟨nq, rfl⟩ := hw'
                go_wp2_with fail
                go_ret2
                exact ⟨by rw [Hv.out]; rfl, (HK.out.keep HKx.out).drewN _⟩
              · have hd2 : decide (65535 < x.2) = false := decide_eq_false hx2
                have He2 : RowKit.Hid (entsB none (l.take (0 + 1)) = true) := Lib.hid (by
                  have h1 : (1 : Int) ≤ x.2 := by omega
                  have h2 : x.2 ≤ 65535 := by omega
                  rw [entsB_take Hx.out, He.out, Heb.out, hn, decide_eq_true h1, decide_eq_true h2]; rfl)
                have hx2l : (0 : Int) ≤ x.2 := by omega
                have hpl : pre.length ≤ 1000000 := pre_len (l := l) (k := 0) Hp.out.symm hl He2.out
                have hx16 : x.1.length ≤ 16 := by
                  simp only [nameOk, Bool.and_eq_true, decide_eq_true_eq] at hn
                  exact hn.1.1.2
                have hcall : ∀ W : World, Calls Tryz.prog 77 #[.string ⟨x.1.toArray⟩] W fun e w' => e = .returned (.bool true) ∧ w' = W := fun W => by
                  have h := rname_any x.1 W (by omega)
                  rw [hn] at h; exact h.mono fun _ _ ⟨a, b⟩ => ⟨a, b.symm⟩
                clear hn
                go_wp2_with fail
                have HBx : RowKit.Hid (World.blk (wr.alloc (.cells #[.string ⟨x.1.toArray⟩, .int .i64 x.2] 98)) wr.heap.size #[.string ⟨x.1.toArray⟩, .int .i64 x.2] 98) := Lib.hid (blk_new _ _ _)
                have HKx : RowKit.Hid (Keep wr (wr.alloc (.cells #[.string ⟨x.1.toArray⟩, .int .i64 x.2] 98))) := Lib.hid ((Mod.refl _ wr).alloc _)
                generalize wr.alloc (.cells #[.string ⟨x.1.toArray⟩, .int .i64 x.2] 98) = wa at *
                have e0 : wa.cell? ⟨wr.heap.size, 0, none⟩ = some (.string ⟨x.1.toArray⟩) := blk_cell HBx.out 0
                have e1 : wa.cell? ⟨wr.heap.size, 1, none⟩ = some (.int .i64 x.2) := blk_cell HBx.out 1
                obtain ⟨xb, hxb⟩ : ∃ xb, wr.heap.size = xb := ⟨_, rfl⟩
                rw [hxb] at HBx e0 e1
                rw [hxb]
                clear c0 c1 hxb
                refine wp_region_qe0 (by kernel_rfl) (by kernel_rfl) ?_
                repeat (go_big_quiet_step ((exact Calls.quiet_of_same (hcall _))))
                refine wpQuiet_nil ?_
                intro _ hw'
                obtain ⟨nq, rfl⟩ := hw'
                go_wp2_with fail
                refine (rtextb_any x.1 _ (by omega)).mono ?_
                rintro e w3 ⟨rfl, hk3⟩
                have HB3 := Lib.hid (blk_mod hk3 (blk_drewN HBx.out nq) id)
                have HK3 : RowKit.Hid (Keep w w3) := Lib.hid (((HK.out.keep HKx.out).drewN nq).keep hk3)
                have g1 : w3.cell? ⟨xb, 1, none⟩ = some (.int .i64 x.2) := blk_cell HB3.out 1
                clear hk3 e0 e1 HBx HKx
                go_wp2_with fail
                refine (rnums_any [x.2.toNat] _ _ (by simp; omega) (by simp) (fun j n hj => ?_)).mono ?_
                · obtain ⟨rfl, rfl⟩ : j = 0 ∧ n = x.2.toNat := by
                    cases j <;> simp at hj
                    exact ⟨rfl, hj.symm⟩
                  rw [show ((x.2.toNat : Nat) : Int) = x.2 by omega]
                  exact blk_cell (blk_new _ _ _) 0
                rintro e w4 ⟨rfl, hk4⟩
                have HK4 := Lib.hid (HK3.out.keep (unalloc hk4))
                have hl2 : (encN x.2.toNat).length ≤ 9 := encN_9 (by omega)
                have hl3 : (encN x.1.length).length ≤ 9 := encN_9 (by omega)
                have hl4 : ([x.2.toNat].flatMap encN).length ≤ 9 := by simpa using hl2
                clear hk4 g1
                go_wp2_with fail
                exact ⟨⟨0 + 1, _, by omega, by go_num, rfl, Lib.hid (by rw [take_snoc Hx.out, Hp.out]; simp [encE1]), He2, HK4.out⟩, by simp [intOf]; omega⟩
        · obtain ⟨j, rfl⟩ : ∃ j, k = j + 1 := ⟨k - 1, by omega⟩
          obtain ⟨y, hy⟩ : ∃ y, l[j]? = some y := ⟨_, List.getElem?_eq_getElem (by omega)⟩
          have hg := gtr_before x.1 y.1
          obtain ⟨bb, hbb⟩ : ∃ bb, bytesBefore y.1 x.1 = bb := ⟨_, rfl⟩
          rw [hbb] at hg
          have Heb : RowKit.Hid (entB (lastOf none (l.take (j + 1))) x = (nameOk x.1 && bb && decide (1 ≤ x.2) && decide (x.2 ≤ 65535))) := Lib.hid (by rw [ent_prev hy, hbb])
          have hbl : (Op.bytesLess x.1 y.1 || x.1 == y.1) = !bb := by rw [← hg, Bool.not_not]
          clear hg
          obtain ⟨b2, o2, e2, hc2⟩ := HX.out j y hy
          injection e2 with e3
          injection e3 with e4 e5
          subst e4 e5
          have d0 : wr.cell? ⟨b, o + j * 2, none⟩ = some (.string ⟨y.1.toArray⟩) := by have h := hc2 0 _ rfl; rw [HK.out.cell (p := ⟨b, o + j * 2, none⟩) (lt_of_cell h) id]; exact h
          have hjl : (j : Int) < l.length := by omega
          have hk1 : (0 : Int) < ((j + 1 : Nat) : Int) := by omega
          clear hbb hc2 hy
          cases hn : nameOk x.1 with
          | false =>
            have Hv : RowKit.Hid (laysR l = .tuple #[.string ⟨#[]⟩, .int .i64 120]) := Lib.hid (by
              have h := entsB_no Hx.out (Heb.out.trans (by simp [hn]))
              simp [laysR, h])
            clear Heb He Hp
            have hcall : ∀ W : World, Calls Tryz.prog 77 #[.string ⟨x.1.toArray⟩] W fun e w' => e = .returned (.bool false) ∧ w' = W := fun W => by
              have h := rname_any x.1 W (by omega)
              rw [hn] at h; exact h.mono fun _ _ ⟨a, b⟩ => ⟨a, b.symm⟩
            clear hn
            go_wp2_with fail
            have HBx : RowKit.Hid (World.blk (wr.alloc (.cells #[.string ⟨x.1.toArray⟩, .int .i64 x.2] 98)) wr.heap.size #[.string ⟨x.1.toArray⟩, .int .i64 x.2] 98) := Lib.hid (blk_new _ _ _)
            have HKx : RowKit.Hid (Keep wr (wr.alloc (.cells #[.string ⟨x.1.toArray⟩, .int .i64 x.2] 98))) := Lib.hid ((Mod.refl _ wr).alloc _)
            generalize wr.alloc (.cells #[.string ⟨x.1.toArray⟩, .int .i64 x.2] 98) = wa at *
            have e0 : wa.cell? ⟨wr.heap.size, 0, none⟩ = some (.string ⟨x.1.toArray⟩) := blk_cell HBx.out 0
            have e1 : wa.cell? ⟨wr.heap.size, 1, none⟩ = some (.int .i64 x.2) := blk_cell HBx.out 1
            have d1 : wa.cell? ⟨b, o + j * 2, none⟩ = some (.string ⟨y.1.toArray⟩) := by rw [HKx.out.cell (p := ⟨b, o + j * 2, none⟩) (lt_of_cell d0) id]; exact d0
            clear d0
            obtain ⟨xb, hxb⟩ : ∃ xb, wr.heap.size = xb := ⟨_, rfl⟩
            rw [hxb] at HBx e0 e1
            rw [hxb]
            clear c0 c1 hxb
            refine wp_region_qe0 (by kernel_rfl) (by kernel_rfl) ?_
            repeat (go_big_quiet_step ((exact Calls.quiet_of_same (hcall _))))
            refine wpQuiet_nil ?_
            intro _ hw'
            obtain ⟨nq, rfl⟩ := hw'
            go_wp2_with fail
            go_ret2
            exact ⟨by rw [Hv.out]; rfl, (HK.out.keep HKx.out).drewN _⟩
          | true =>
            cases bb with
            | false =>
              have Hv : RowKit.Hid (laysR l = .tuple #[.string ⟨#[]⟩, .int .i64 120]) := Lib.hid (by
                have h := entsB_no Hx.out (Heb.out.trans (by simp [hn]))
                simp [laysR, h])
              clear Heb He Hp
              have hcall : ∀ W : World, Calls Tryz.prog 77 #[.string ⟨x.1.toArray⟩] W fun e w' => e = .returned (.bool true) ∧ w' = W := fun W => by
                have h := rname_any x.1 W (by omega)
                rw [hn] at h; exact h.mono fun _ _ ⟨a, b⟩ => ⟨a, b.symm⟩
              clear hn
              go_wp2_with fail
              have HBx : RowKit.Hid (World.blk (wr.alloc (.cells #[.string ⟨x.1.toArray⟩, .int .i64 x.2] 98)) wr.heap.size #[.string ⟨x.1.toArray⟩, .int .i64 x.2] 98) := Lib.hid (blk_new _ _ _)
              have HKx : RowKit.Hid (Keep wr (wr.alloc (.cells #[.string ⟨x.1.toArray⟩, .int .i64 x.2] 98))) := Lib.hid ((Mod.refl _ wr).alloc _)
              generalize wr.alloc (.cells #[.string ⟨x.1.toArray⟩, .int .i64 x.2] 98) = wa at *
              have e0 : wa.cell? ⟨wr.heap.size, 0, none⟩ = some (.string ⟨x.1.toArray⟩) := blk_cell HBx.out 0
              have e1 : wa.cell? ⟨wr.heap.size, 1, none⟩ = some (.int .i64 x.2) := blk_cell HBx.out 1
              have d1 : wa.cell? ⟨b, o + j * 2, none⟩ = some (.string ⟨y.1.toArray⟩) := by rw [HKx.out.cell (p := ⟨b, o + j * 2, none⟩) (lt_of_cell d0) id]; exact d0
              clear d0
              obtain ⟨xb, hxb⟩ : ∃ xb, wr.heap.size = xb := ⟨_, rfl⟩
              rw [hxb] at HBx e0 e1
              rw [hxb]
              clear c0 c1 hxb
              refine wp_region_qe0 (by kernel_rfl) (by kernel_rfl) ?_
              repeat (go_big_quiet_step ((exact Calls.quiet_of_same (hcall _))))
              refine wpQuiet_nil ?_
              intro _ hw'
              obtain ⟨nq, rfl⟩ := hw'
              go_wp2_with fail
              go_ret2
              exact ⟨by rw [Hv.out]; rfl, (HK.out.keep HKx.out).drewN _⟩
            | true =>
              by_cases hx1 : x.2 < 1
              · have hd0 : decide (1 ≤ x.2) = false := decide_eq_false (by omega)
                have Hv : RowKit.Hid (laysR l = .tuple #[.string ⟨#[]⟩, .int .i64 120]) := Lib.hid (by
                  have h := entsB_no Hx.out (Heb.out.trans (by simp [hd0]))
                  simp [laysR, h])
                clear Heb He Hp
                clear hd0
                have hd1 : decide (x.2 < 1) = true := decide_eq_true hx1
                have hcall : ∀ W : World, Calls Tryz.prog 77 #[.string ⟨x.1.toArray⟩] W fun e w' => e = .returned (.bool true) ∧ w' = W := fun W => by
                  have h := rname_any x.1 W (by omega)
                  rw [hn] at h; exact h.mono fun _ _ ⟨a, b⟩ => ⟨a, b.symm⟩
                clear hn
                go_wp2_with fail
                have HBx : RowKit.Hid (World.blk (wr.alloc (.cells #[.string ⟨x.1.toArray⟩, .int .i64 x.2] 98)) wr.heap.size #[.string ⟨x.1.toArray⟩, .int .i64 x.2] 98) := Lib.hid (blk_new _ _ _)
                have HKx : RowKit.Hid (Keep wr (wr.alloc (.cells #[.string ⟨x.1.toArray⟩, .int .i64 x.2] 98))) := Lib.hid ((Mod.refl _ wr).alloc _)
                generalize wr.alloc (.cells #[.string ⟨x.1.toArray⟩, .int .i64 x.2] 98) = wa at *
                have e0 : wa.cell? ⟨wr.heap.size, 0, none⟩ = some (.string ⟨x.1.toArray⟩) := blk_cell HBx.out 0
                have e1 : wa.cell? ⟨wr.heap.size, 1, none⟩ = some (.int .i64 x.2) := blk_cell HBx.out 1
                have d1 : wa.cell? ⟨b, o + j * 2, none⟩ = some (.string ⟨y.1.toArray⟩) := by rw [HKx.out.cell (p := ⟨b, o + j * 2, none⟩) (lt_of_cell d0) id]; exact d0
                clear d0
                obtain ⟨xb, hxb⟩ : ∃ xb, wr.heap.size = xb := ⟨_, rfl⟩
                rw [hxb] at HBx e0 e1
                rw [hxb]
                clear c0 c1 hxb
                refine wp_region_qe0 (by kernel_rfl) (by kernel_rfl) ?_
                repeat (go_big_quiet_step ((exact Calls.quiet_of_same (hcall _))))
                refine wpQuiet_nil ?_
                intro _ hw'
                obtain ⟨nq, rfl⟩ := hw'
                go_wp2_with fail
                go_ret2
                exact ⟨by rw [Hv.out]; rfl, (HK.out.keep HKx.out).drewN _⟩
              · have hd1 : decide (x.2 < 1) = false := decide_eq_false hx1
                by_cases hx2 : 65535 < x.2
                · have hd0 : decide (x.2 ≤ 65535) = false := decide_eq_false (by omega)
                  have Hv : RowKit.Hid (laysR l = .tuple #[.string ⟨#[]⟩, .int .i64 120]) := Lib.hid (by
                    have h := entsB_no Hx.out (Heb.out.trans (by simp [hd0]))
                    simp [laysR, h])
                  clear Heb He Hp
                  clear hd0
                  have hd2 : decide (65535 < x.2) = true := decide_eq_true hx2
                  have hcall : ∀ W : World, Calls Tryz.prog 77 #[.string ⟨x.1.toArray⟩] W fun e w' => e = .returned (.bool true) ∧ w' = W := fun W => by
                    have h := rname_any x.1 W (by omega)
                    rw [hn] at h; exact h.mono fun _ _ ⟨a, b⟩ => ⟨a, b.symm⟩
                  clear hn
                  go_wp2_with fail
                  have HBx : RowKit.Hid (World.blk (wr.alloc (.cells #[.string ⟨x.1.toArray⟩, .int .i64 x.2] 98)) wr.heap.size #[.string ⟨x.1.toArray⟩, .int .i64 x.2] 98) := Lib.hid (blk_new _ _ _)
                  have HKx : RowKit.Hid (Keep wr (wr.alloc (.cells #[.string ⟨x.1.toArray⟩, .int .i64 x.2] 98))) := Lib.hid ((Mod.refl _ wr).alloc _)
                  generalize wr.alloc (.cells #[.string ⟨x.1.toArray⟩, .int .i64 x.2] 98) = wa at *
                  have e0 : wa.cell? ⟨wr.heap.size, 0, none⟩ = some (.string ⟨x.1.toArray⟩) := blk_cell HBx.out 0
                  have e1 : wa.cell? ⟨wr.heap.size, 1, none⟩ = some (.int .i64 x.2) := blk_cell HBx.out 1
                  have d1 : wa.cell? ⟨b, o + j * 2, none⟩ = some (.string ⟨y.1.toArray⟩) := by rw [HKx.out.cell (p := ⟨b, o + j * 2, none⟩) (lt_of_cell d0) id]; exact d0
                  clear d0
                  obtain ⟨xb, hxb⟩ : ∃ xb, wr.heap.size = xb := ⟨_, rfl⟩
                  rw [hxb] at HBx e0 e1
                  rw [hxb]
                  clear c0 c1 hxb
                  refine wp_region_qe0 (by kernel_rfl) (by kernel_rfl) ?_
                  repeat (go_big_quiet_step ((exact Calls.quiet_of_same (hcall _))))
                  refine wpQuiet_nil ?_
                  intro _ hw'
                  obtain ⟨nq, rfl⟩ := hw'
                  go_wp2_with fail
                  go_ret2
                  exact ⟨by rw [Hv.out]; rfl, (HK.out.keep HKx.out).drewN _⟩
                · have hd2 : decide (65535 < x.2) = false := decide_eq_false hx2
                  have He2 : RowKit.Hid (entsB none (l.take (j + 1 + 1)) = true) := Lib.hid (by
                    have h1 : (1 : Int) ≤ x.2 := by omega
                    have h2 : x.2 ≤ 65535 := by omega
                    rw [entsB_take Hx.out, He.out, Heb.out, hn, decide_eq_true h1, decide_eq_true h2]; rfl)
                  have hx2l : (0 : Int) ≤ x.2 := by omega
                  have hpl : pre.length ≤ 1000000 := pre_len (l := l) (k := j + 1) Hp.out.symm hl He2.out
                  have hx16 : x.1.length ≤ 16 := by
                    simp only [nameOk, Bool.and_eq_true, decide_eq_true_eq] at hn
                    exact hn.1.1.2
                  have hcall : ∀ W : World, Calls Tryz.prog 77 #[.string ⟨x.1.toArray⟩] W fun e w' => e = .returned (.bool true) ∧ w' = W := fun W => by
                    have h := rname_any x.1 W (by omega)
                    rw [hn] at h; exact h.mono fun _ _ ⟨a, b⟩ => ⟨a, b.symm⟩
                  clear hn
                  go_wp2_with fail
                  have HBx : RowKit.Hid (World.blk (wr.alloc (.cells #[.string ⟨x.1.toArray⟩, .int .i64 x.2] 98)) wr.heap.size #[.string ⟨x.1.toArray⟩, .int .i64 x.2] 98) := Lib.hid (blk_new _ _ _)
                  have HKx : RowKit.Hid (Keep wr (wr.alloc (.cells #[.string ⟨x.1.toArray⟩, .int .i64 x.2] 98))) := Lib.hid ((Mod.refl _ wr).alloc _)
                  generalize wr.alloc (.cells #[.string ⟨x.1.toArray⟩, .int .i64 x.2] 98) = wa at *
                  have e0 : wa.cell? ⟨wr.heap.size, 0, none⟩ = some (.string ⟨x.1.toArray⟩) := blk_cell HBx.out 0
                  have e1 : wa.cell? ⟨wr.heap.size, 1, none⟩ = some (.int .i64 x.2) := blk_cell HBx.out 1
                  have d1 : wa.cell? ⟨b, o + j * 2, none⟩ = some (.string ⟨y.1.toArray⟩) := by rw [HKx.out.cell (p := ⟨b, o + j * 2, none⟩) (lt_of_cell d0) id]; exact d0
                  clear d0
                  obtain ⟨xb, hxb⟩ : ∃ xb, wr.heap.size = xb := ⟨_, rfl⟩
                  rw [hxb] at HBx e0 e1
                  rw [hxb]
                  clear c0 c1 hxb
                  refine wp_region_qe0 (by kernel_rfl) (by kernel_rfl) ?_
                  repeat (go_big_quiet_step ((exact Calls.quiet_of_same (hcall _))))
                  refine wpQuiet_nil ?_
                  intro _ hw'
                  obtain ⟨nq, rfl⟩ := hw'
                  go_wp2_with fail
                  refine (rtextb_any x.1 _ (by omega)).mono ?_
                  rintro e w3 ⟨rfl, hk3⟩
                  have HB3 := Lib.hid (blk_mod hk3 (blk_drewN HBx.out nq) id)
                  have HK3 : RowKit.Hid (Keep w w3) := Lib.hid (((HK.out.keep HKx.out).drewN nq).keep hk3)
                  have g1 : w3.cell? ⟨xb, 1, none⟩ = some (.int .i64 x.2) := blk_cell HB3.out 1
                  clear hk3 e0 e1 HBx HKx
                  go_wp2_with fail
                  refine (rnums_any [x.2.toNat] _ _ (by simp; omega) (by simp) (fun j n hj => ?_)).mono ?_
                  · obtain ⟨rfl, rfl⟩ : j = 0 ∧ n = x.2.toNat := by
                      cases j <;> simp at hj
                      exact ⟨rfl, hj.symm⟩
                    rw [show ((x.2.toNat : Nat) : Int) = x.2 by omega]
                    exact blk_cell (blk_new _ _ _) 0
                  rintro e w4 ⟨rfl, hk4⟩
                  have HK4 := Lib.hid (HK3.out.keep (unalloc hk4))
                  have hl2 : (encN x.2.toNat).length ≤ 9 := encN_9 (by omega)
                  have hl3 : (encN x.1.length).length ≤ 9 := encN_9 (by omega)
                  have hl4 : ([x.2.toNat].flatMap encN).length ≤ 9 := by simpa using hl2
                  clear hk4 g1
                  go_wp2_with fail
                  exact ⟨⟨j + 1 + 1, _, by omega, by go_num, rfl, Lib.hid (by rw [take_snoc Hx.out, Hp.out]; simp [encE1]), He2, HK4.out⟩, by simp [intOf]; omega⟩
      · obtain rfl : k = l.length := by omega
        clear hlt
        have Hok : RowKit.Hid (entsOk l = true) := Lib.hid (by
          have h := He.out
          rw [List.take_length] at h
          unfold entsOk
          rw [h, decide_eq_true hl]; rfl)
        go_wp2_with fail
        go_ret2
        exact ⟨by rw [laysR, if_pos Hok.out, Hp.out, List.take_length]; rfl, HK.out⟩
  · have hli : (4096 : Int) < l.length := by omega
    have Hv : RowKit.Hid (laysR l = .tuple #[.string ⟨#[]⟩, .int .i64 120]) := Lib.hid (by
      have h : entsOk l = false := by unfold entsOk; rw [decide_eq_false hl]; rfl
      simp [laysR, h])
    go_enter Tryz.func60, Tryz.ntmps60
    go_wp2_with fail
    go_ret2
    exact ⟨by rw [Hv.out]; rfl, Mod.refl _ _⟩
end
section
open Go.RowKit
/-- no list of entries has these bytes -/
def NoEnts (s : List UInt8) : Prop := ∀ l, entsOk l = true → encE l ≠ s
set_option maxRecDepth 100000 in
set_option maxHeartbeats 8000000 in
theorem parse_bad (S : List UInt8) (hSb : S.length ≤ 1000000) (hbad : NoEnts S) (w : World) (hg : ErrT w) :
    Calls Tryz.prog 86 #[formV, .string ⟨S.toArray⟩] w fun e w' => e = .returned (.tuple #[.slice none 0 0, .int .i64 120]) ∧ Keep w w' := by
  have Hg := Lib.hid hg
  have Hbad := Lib.hid hbad
  clear hg hbad
  go_enter Tryz.func86, Tryz.ntmps86
  go_wp2_with fail
  refine (rdnew_any S _).mono ?_
  rintro e w1 ⟨rfl, h1, hk1⟩
  have HF1 : RowKit.Hid (World.blk w1 w.heap.size #[.func (.func 114) #[] #[], .func (.func 115) #[] #[], .func (.func 116) #[] #[]] 140) := Lib.hid (blk_mod hk1 (blk_new _ _ _) id)
  have HK1 := Lib.hid (unalloc hk1)
  have h1' : IsRdE w1 (w.heap.size + 1) S none := by
    have h : IsRd w1 (w.heap.size + 1) S := by simpa using h1
    exact h
  have H1 := Lib.hid h1'
  clear h1 h1' hk1
  go_wp2_with fail
  refine (wnumE_any S none 4096 (w.heap.size + 1) w1 H1.out (by omega) (Hg.out.keep HK1.out)).mono ?_
  rintro e w2 ⟨n, y, s2, x2, rfl, h2, hm2, hs2, hn0, hn1⟩
  have H2 := Lib.hid h2
  have HF2 := Lib.hid (blk_mod hm2 HF1.out (by omega))
  have HK2 := Lib.hid (HK1.out.new hm2 (by omega))
  have hrw := blk_lt h2
  clear h2 hm2 H1 HF1 HK1
  by_cases hy : y = 0
  · subst hy
    go_wp2_with fail
    go_loopw [9, 10] (fun v i wr => ∃ (k : Nat) (l : Nm) (s : List UInt8) (x : Option Int), l.length = k ∧ k ≤ S.length ∧ i = .int .i64 (k : Int) ∧ Keep w wr ∧ w2.heap.size ≤ wr.heap.size ∧ World.blk wr w.heap.size #[.func (.func 114) #[] #[], .func (.func 115) #[] #[], .func (.func 116) #[] #[]] 140 ∧ IsRdE wr (w.heap.size + 1) s x ∧ s.length ≤ S.length ∧ OwnF entC 2 98 wr w2.heap.size v l ∧ RowKit.Hid (∀ p ∈ l, p.1.length ≤ S.length ∧ 0 ≤ p.2 ∧ p.2 ≤ 4611686018427387903)) (fun _ i _ => S.length - (intOf i).toNat)
    case atStart => exact ⟨0, [], s2, x2, rfl, by omega, rfl, HK2.out, Nat.le_refl _, HF2.out, H2.out, hs2, ⟨rfl, .inl ⟨rfl, rfl⟩⟩, Lib.hid (fun p hp => by cases hp)⟩
    case round =>
      clear HK2 HF2 H2
      obtain ⟨k, l, s, x, hlk, hk, rfl, hK, hsz, hF, hR, hss, hV, Hl⟩ := hrel
      have HK := Lib.hid hK
      have HF := Lib.hid hF
      have HR := Lib.hid hR
      have HV := Lib.hid hV
      have Hlk := Lib.hid hlk
      clear hK hF hR hV hlk
      by_cases hlt : (k : Int) < n ∧ k < S.length
      · obtain ⟨hkn, hkS⟩ := hlt
        have f2 : wr.cell? ⟨w.heap.size, 2, none⟩ = some (.func (.func 116) #[] #[]) := blk_cell HF.out 2
        have hkS' : (k : Int) < S.length := by omega
        go_wp2_with fail
        refine (rentE_any s x (w.heap.size + 1) wr HR.out (by omega) (Hg.out.keep HK.out)).mono ?_
        rintro e w3 ⟨p, s3, x3, rfl, hr3, hm3, hs3, hp1, hp2, hp3⟩
        have HR3 := Lib.hid hr3
        have HF3 := Lib.hid (blk_mod hm3 HF.out (by omega))
        have HK3 := Lib.hid (HK.out.new hm3 (by omega))
        have HV3 : RowKit.Hid (OwnF entC 2 98 w3 w2.heap.size u9 l) := Lib.hid (own_modF HV.out hm3 (by omega))
        have hsz3 : w2.heap.size ≤ w3.heap.size := Nat.le_trans hsz hm3.size
        obtain ⟨v2, w4, hr, ho, hk2, hm2⟩ := append_struct (f := entC) (x := p) (P := Tryz.prog) Tryz.underlying73 info_ent rfl (by decide) entC_len w2.heap.size u9 l w3 w HV3.out (entC_one p) (by have := Hlk.out; unfold maxLen; omega) (by have := Hlk.out; omega) hsz3 HK3.out (by omega)
        have Hr := Lib.hid hr
        have Ho := Lib.hid ho
        have Hk2 := Lib.hid hk2
        have HF4 := Lib.hid (blk_mod hm2 HF3.out (by omega))
        have HR4 : RowKit.Hid (IsRdE w4 (w.heap.size + 1) s3 x3) := Lib.hid (blk_mod hm2 HR3.out (by omega))
        have hs4 : w2.heap.size ≤ w4.heap.size := Nat.le_trans hsz3 hm2.size
        have Hl2 : RowKit.Hid (∀ q ∈ l ++ [p], q.1.length ≤ S.length ∧ 0 ≤ q.2 ∧ q.2 ≤ 4611686018427387903) := Lib.hid (fun q hq => by
          rcases List.mem_append.1 hq with h | h
          · exact Hl.out q h
          · rw [List.mem_singleton] at h; subst h; exact ⟨by omega, hp2, hp3⟩)
        have hll : (l ++ [p]).length = k + 1 := by rw [List.length_append, Hlk.out]; rfl
        have hs3S : s3.length ≤ S.length := by omega
        clear hr ho hk2 hm2 hr3 hm3 f2 HF HR HK HV HF3 HR3 HK3 HV3 hp1 hp2 hp3
        go_wp2_with ((at_builtin; refine wpList_append_run Hr.out rfl rfl rfl rfl ?_))
        refine ⟨⟨k + 1, l ++ [p], s3, x3, hll, by omega, by go_num, Hk2.out, hs4, HF4.out, HR4.out, hs3S, Ho.out, Hl2⟩, by simp [intOf]; omega⟩
      · have HW3 := Lib.hid (rowF_own entC_len HV.out)
        have hl2 : l.length ≤ 1000000 := by rw [Hlk.out]; omega
        have Hl2 := Lib.hid hl2
        have hcase : (¬ (k : Int) < n) ∨ ((k : Int) < n ∧ ¬ (k : Int) < S.length) := by omega
        clear hlt hl2
        rcases hcase with hkn | ⟨hkn, hkS⟩
        all_goals
          go_wp2_with fail
          refine (rendE_any s x _ wr HR.out (Hg.out.keep HK.out)).mono ?_
          rintro e w4 ⟨y, rfl, hk4⟩
          have HF4 := Lib.hid (blk_mod hk4 HF.out id)
          have HK4 := Lib.hid (HK.out.keep hk4)
          have HW4 := Lib.hid (rowF_keep HW3.out hk4)
          clear hk4 HF HK HV HW3 HR
          by_cases hy : y = 0
          · subst hy
            have f0 : w4.cell? ⟨w.heap.size, 0, none⟩ = some (.func (.func 114) #[] #[]) := blk_cell HF4.out 0
            have f1 : w4.cell? ⟨w.heap.size, 1, none⟩ = some (.func (.func 115) #[] #[]) := blk_cell HF4.out 1
            have f2 : w4.cell? ⟨w.heap.size, 2, none⟩ = some (.func (.func 116) #[] #[]) := blk_cell HF4.out 2
            go_wp2_with fail
            refine (lays_any l _ w4 HW4.out (by have := Hl2.out; omega) (fun p hp => by have := Hl.out p hp; omega)).mono ?_
            rintro e w5 ⟨rfl, hk5⟩
            have HK5 := Lib.hid (HK4.out.keep hk5)
            clear hk5 f0 f1 f2
            cases hok : entsOk l with
            | true =>
              have hv : laysR l = .tuple #[.string ⟨(encE l).toArray⟩, .int .i64 0] := by rw [laysR, if_pos hok]
              have hq : (encE l == S) = false := beq_false_of_ne (Hbad.out l hok)
              rw [hv]
              clear hok hv
              go_wp2_with fail
              go_ret2
              exact ⟨rfl, HK5.out⟩
            | false =>
              have hv : laysR l = .tuple #[.string ⟨#[]⟩, .int .i64 120] := by rw [laysR, if_neg (by rw [hok]; decide)]
              rw [hv]
              clear hok hv
              go_wp2_with fail
              go_ret2
              exact ⟨rfl, HK5.out⟩
          · have hy0 : (y == 0) = false := beq_false_of_ne hy
            have hy1 : (y != 0) = true := bne_iff_ne.2 hy
            clear hy
            go_wp2_with fail
            go_ret2
            exact ⟨rfl, HK4.out⟩
  · have hy0 : (y == 0) = false := beq_false_of_ne hy
    have hy1 : (y != 0) = true := bne_iff_ne.2 hy
    clear hy
    go_wp2_with fail
    go_ret2
    exact ⟨rfl, HK2.out⟩
set_option maxRecDepth 100000 in
set_option maxHeartbeats 1000000 in
theorem parsee_bad (S : List UInt8) (hSb : S.length ≤ 1000000) (hbad : NoEnts S) (w : World) (hg : ErrT w) :
    Calls Tryz.prog 57 #[.string ⟨S.toArray⟩] w fun e w' => e = .returned (.tuple #[.slice none 0 0, .int .i64 120]) ∧ Keep w w' := by
  have Hg := Lib.hid hg
  clear hg
  go_enter Tryz.func57, Tryz.ntmps57
  go_wp2_with fail
  refine (form_any _).mono ?_
  rintro e w1 ⟨rfl, hk⟩
  have HK := Lib.hid hk
  clear hk
  go_wp2_with fail
  refine (parse_bad S hSb hbad w1 (Hg.out.keep HK.out)).mono ?_
  rintro e w2 ⟨rfl, hk⟩
  have HK2 := Lib.hid (HK.out.keep hk)
  clear hk
  go_wp2_with fail
  go_ret2
  exact ⟨rfl, HK2.out⟩
end
section
open Go.RowKit
set_option maxRecDepth 100000 in
theorem r3num_bad (S : List UInt8) (k : Nat) (x most : Int) (r : Nat) (w : World) (h : IsR3 w r S k x) (hx : x ≠ 0) :
    Calls Tryz.prog 58 #[.pointer (some ⟨r, 0, none⟩), .int .i64 most] w fun e w' => e = .returned (.tuple #[.int .i64 0, .int .i64 x]) ∧ Keep w w' := by
  have c2 : w.cell? ⟨r, 2, none⟩ = some (.int .i64 x) := blk_cell h 2
  have hx0 : (x == 0) = false := beq_false_of_ne hx
  have hx1 : (x != 0) = true := bne_iff_ne.2 hx
  clear h hx
  go_enter Tryz.func58, Tryz.ntmps58
  go_wp2_with fail
  refine wp_region_qe0 (by kernel_rfl) (by kernel_rfl) ?_
  repeat (go_big_quiet_step (fail))
  refine wpQuiet_nil ?_
  intro _ hw'
  obtain ⟨nq, rfl⟩ := hw'
  go_wp2_with fail
  go_ret2
  exact ⟨rfl, (Mod.refl _ w).drewN _⟩
theorem rdGo_err0 : ∀ (s : List UInt8) (i n : Nat) (x : Int), rdGo i n s = .error x → x ≠ 0 := fun s i n x h e => by
  have := rdGo_err s i n x h
  rw [e] at this; cases this
theorem r3num_some (S : List UInt8) (k : Nat) (x most : Int) (r : Nat) (w : World) (h : IsR3 w r S k x) (hk : k ≤ S.length) (hS : S.length ≤ 1000000) (hm : most ≤ 9223372036854775807) :
    Calls Tryz.prog 58 #[.pointer (some ⟨r, 0, none⟩), .int .i64 most] w fun e w' => ∃ (n y : Int) (k' : Nat), e = .returned (.tuple #[.int .i64 n, .int .i64 y]) ∧ IsR3 w' r S k' y ∧ Mod (· = r) w w' ∧ k' ≤ S.length ∧ 0 ≤ n ∧ n ≤ 4611686018427387904 := by
  by_cases hx : x = 0
  · subst hx
    refine (r3num_any S k most r w h hk hS hm).mono ?_
    rintro e w' ⟨hm1, hc⟩
    cases hg : rdGo 0 0 (S.drop k) with
    | error y =>
      rw [hg] at hc
      obtain ⟨rfl, hr⟩ := hc
      exact ⟨0, y, k, rfl, hr, hm1, hk, by omega, by omega⟩
    | ok nk =>
      obtain ⟨n, j⟩ := nk
      rw [hg] at hc
      have hb := rdGo_bound (S.drop k) 0 0 n j (by omega) (by simp) hg
      rw [List.length_drop] at hb
      have hj : k + j ≤ S.length := by omega
      simp only at hc
      by_cases hn : n ≤ 4611686018427387903 ∧ (n : Int) ≤ most
      · rw [if_pos hn] at hc
        obtain ⟨rfl, hr⟩ := hc
        exact ⟨n, 0, k + j, rfl, hr, hm1, hj, by omega, by omega⟩
      · rw [if_neg hn] at hc
        obtain ⟨rfl, hr⟩ := hc
        exact ⟨0, 31, k + j, rfl, hr, hm1, hj, by omega, by omega⟩
  · refine (r3num_bad S k x most r w h hx).mono ?_
    rintro e w' ⟨rfl, hk1⟩
    exact ⟨0, x, k, rfl, blk_mod hk1 h id, hk1.mono (fun _ _ h => h.elim), hk, by omega, by omega⟩
theorem r3num_lim (S : List UInt8) (k : Nat) (x most : Int) (r : Nat) (w : World) (h : IsR3 w r S k x) (hk : k ≤ S.length) (hS : S.length ≤ 1000000) (hm : 0 ≤ most ∧ most ≤ 9223372036854775807) :
    Calls Tryz.prog 58 #[.pointer (some ⟨r, 0, none⟩), .int .i64 most] w fun e w' => ∃ (n y : Int) (k' : Nat), e = .returned (.tuple #[.int .i64 n, .int .i64 y]) ∧ IsR3 w' r S k' y ∧ Mod (· = r) w w' ∧ k' ≤ S.length ∧ 0 ≤ n ∧ n ≤ most := by
  by_cases hx : x = 0
  · subst hx
    refine (r3num_any S k most r w h hk hS hm.2).mono ?_
    rintro e w' ⟨hm1, hc⟩
    cases hg : rdGo 0 0 (S.drop k) with
    | error y =>
      rw [hg] at hc
      obtain ⟨rfl, hr⟩ := hc
      exact ⟨0, y, k, rfl, hr, hm1, hk, by omega, by omega⟩
    | ok nk =>
      obtain ⟨n, j⟩ := nk
      rw [hg] at hc
      have hb := rdGo_bound (S.drop k) 0 0 n j (by omega) (by simp) hg
      rw [List.length_drop] at hb
      have hj : k + j ≤ S.length := by omega
      simp only at hc
      by_cases hn : n ≤ 4611686018427387903 ∧ (n : Int) ≤ most
      · rw [if_pos hn] at hc
        obtain ⟨rfl, hr⟩ := hc
        exact ⟨n, 0, k + j, rfl, hr, hm1, hj, by omega, by omega⟩
      · rw [if_neg hn] at hc
        obtain ⟨rfl, hr⟩ := hc
        exact ⟨0, 31, k + j, rfl, hr, hm1, hj, by omega, by omega⟩
  · refine (r3num_bad S k x most r w h hx).mono ?_
    rintro e w' ⟨rfl, hk1⟩
    exact ⟨0, x, k, rfl, blk_mod hk1 h id, hk1.mono (fun _ _ h => h.elim), hk, by omega, by omega⟩
set_option maxRecDepth 100000 in
set_option maxHeartbeats 4000000 in
theorem r3text_bad (S : List UInt8) (k : Nat) (x most : Int) (r : Nat) (w : World) (h : IsR3 w r S k x) (hx : x ≠ 0) :
    Calls Tryz.prog 59 #[.pointer (some ⟨r, 0, none⟩), .int .i64 most] w fun e w' => e = .returned (.tuple #[.string ⟨#[]⟩, .int .i64 x]) ∧ Keep w w' := by
  have HC := Lib.hid (fun m => r3num_bad S k x m r w h hx)
  have hx0 : (x == 0) = false := beq_false_of_ne hx
  have hx1 : (x != 0) = true := bne_iff_ne.2 hx
  clear h hx
  go_enter Tryz.func59, Tryz.ntmps59
  go_wp2_with fail
  refine (HC.out _).mono ?_
  rintro e w1 ⟨rfl, hk⟩
  have HK := Lib.hid hk
  clear hk
  go_wp2_with fail
  go_ret2
  exact ⟨rfl, HK.out⟩
theorem r3text_some (S : List UInt8) (k : Nat) (x : Int) (r : Nat) (w : World) (h : IsR3 w r S k x) (hk : k ≤ S.length) (hS : S.length ≤ 1000000) :
    Calls Tryz.prog 59 #[.pointer (some ⟨r, 0, none⟩), .int .i64 16] w fun e w' => ∃ (t : List UInt8) (y : Int) (k' : Nat), e = .returned (.tuple #[.string ⟨t.toArray⟩, .int .i64 y]) ∧ IsR3 w' r S k' y ∧ Mod (· = r) w w' ∧ k' ≤ S.length ∧ t.length ≤ 16 := by
  by_cases hx : x = 0
  · subst hx
    refine (r3text_any S k 16 r w h hk hS (by omega)).mono ?_
    rintro e w' ⟨hm1, hc⟩
    cases hg : rdGo 0 0 (S.drop k) with
    | error y =>
      rw [hg] at hc
      obtain ⟨rfl, hr⟩ := hc
      exact ⟨[], y, k, rfl, hr, hm1, hk, by simp⟩
    | ok nk =>
      obtain ⟨n, j⟩ := nk
      rw [hg] at hc
      have hb := rdGo_bound (S.drop k) 0 0 n j (by omega) (by simp) hg
      rw [List.length_drop] at hb
      have hj : k + j ≤ S.length := by omega
      simp only at hc
      by_cases hn : (n : Int) ≤ 16
      · rw [if_pos hn] at hc
        by_cases hl : k + j + n ≤ S.length
        · rw [if_pos hl] at hc
          obtain ⟨rfl, hr⟩ := hc
          exact ⟨_, 0, k + j + n, rfl, hr, hm1, hl, by rw [List.length_take]; omega⟩
        · rw [if_neg hl] at hc
          obtain ⟨rfl, hr⟩ := hc
          exact ⟨[], 32, k + j, rfl, hr, hm1, hj, by simp⟩
      · rw [if_neg hn] at hc
        obtain ⟨rfl, hr⟩ := hc
        exact ⟨[], 31, k + j, rfl, hr, hm1, hj, by simp⟩
  · refine (r3text_bad S k x 16 r w h hx).mono ?_
    rintro e w' ⟨rfl, hk1⟩
    exact ⟨[], x, k, rfl, blk_mod hk1 h id, hk1.mono (fun _ _ h => h.elim), hk, by simp⟩
set_option maxRecDepth 100000 in
set_option maxHeartbeats 4000000 in
theorem r3end_some (S : List UInt8) (k : Nat) (x : Int) (r : Nat) (w : World) (h : IsR3 w r S k x) (hS : S.length ≤ 1000000) (hk : k ≤ S.length) : Calls Tryz.prog 61 #[.pointer (some ⟨r, 0, none⟩)] w fun e w' => ∃ y, e = .returned (.int .i64 y) ∧ Keep w w' := by
  have c0 : w.cell? ⟨r, 0, none⟩ = some (.string ⟨S.toArray⟩) := blk_cell h 0
  have c1 : w.cell? ⟨r, 1, none⟩ = some (.int .i64 (k : Int)) := blk_cell h 1
  have c2 : w.cell? ⟨r, 2, none⟩ = some (.int .i64 x) := blk_cell h 2
  clear h
  by_cases hx : x = 0
  · subst hx
    by_cases hi : (k : Int) < S.length
    · go_enter Tryz.func61, Tryz.ntmps61
      go_wp2_with fail
      refine wp_region_qe0 (by kernel_rfl) (by kernel_rfl) ?_
      repeat (quiet_step (fail))
      refine wpQuiet_nil ?_
      intro _ hw'
      obtain ⟨nq, rfl⟩ := hw'
      go_wp2_with fail
      go_ret
      exact ⟨_, rfl, (Mod.refl _ w).drewN _⟩
    · go_enter Tryz.func61, Tryz.ntmps61
      go_wp2_with fail
      refine wp_region_qe0 (by kernel_rfl) (by kernel_rfl) ?_
      repeat (quiet_step (fail))
      refine wpQuiet_nil ?_
      intro _ hw'
      obtain ⟨nq, rfl⟩ := hw'
      go_wp2_with fail
      go_ret
      exact ⟨_, rfl, (Mod.refl _ w).drewN _⟩
  · have hx0 : (x == 0) = false := beq_false_of_ne hx
    have hx1 : (x != 0) = true := bne_iff_ne.2 hx
    clear hx
    go_enter Tryz.func61, Tryz.ntmps61
    go_wp2_with fail
    go_ret
    exact ⟨_, rfl, Mod.refl _ _⟩
set_option maxRecDepth 100000 in
set_option maxHeartbeats 8000000 in
theorem rparsee_bad (S : List UInt8) (hSl : S.length ≤ 1000000) (hbad : NoEnts S) (w : World) :
    Calls Tryz.prog 31 #[.string ⟨S.toArray⟩] w fun e w' => e = .returned (.tuple #[.slice none 0 0, .int .i64 120]) ∧ Keep w w' := by
  have Hbad := Lib.hid hbad
  clear hbad
  go_enter Tryz.func31, Tryz.ntmps31
  go_wp2_with fail
  refine (r3num_lim S 0 0 4096 w.heap.size _ (blk_new _ _ _) (by omega) hSl (by omega)).mono ?_
  rintro e w1 ⟨n, y, k1, rfl, h1, hm1, hk1, hn0, hn1⟩
  have HK1 : RowKit.Hid (Keep w w1) := Lib.hid (((Mod.refl (fun _ => False) w).alloc _).new hm1 (Nat.le_refl _))
  have H1 : RowKit.Hid (IsR3 w1 w.heap.size S k1 y) := Lib.hid h1
  have hrl := blk_lt h1
  clear h1 hm1
  go_wp2_with fail
  have HK2 : RowKit.Hid (Keep w (w1.alloc (.cells #[] 98))) := Lib.hid (HK1.out.alloc _)
  have HR2 : RowKit.Hid (IsR3 (w1.alloc (.cells #[] 98)) w.heap.size S k1 y) := Lib.hid (blk_alloc H1.out _)
  have HV2 : RowKit.Hid (OwnF entC 2 98 (w1.alloc (.cells #[] 98)) w1.heap.size (.slice (some ⟨w1.heap.size, 0, none⟩) 0 0) []) := Lib.hid ⟨by simp, .inr ⟨_, 0, #[], rfl, Nat.le_refl _, blk_new _ _ _, Nat.le_refl _, by simp, by simp, by simp⟩⟩
  have hsz2 : w1.heap.size ≤ (w1.alloc (.cells #[] 98)).heap.size := by simp
  generalize w1.alloc (.cells #[] 98) = w2 at *
  obtain ⟨ob, hob⟩ : ∃ ob, w1.heap.size = ob := ⟨_, rfl⟩
  obtain ⟨r, hr⟩ : ∃ r, w.heap.size = r := ⟨_, rfl⟩
  rw [hob] at HV2 hsz2 hrl
  rw [hr] at HR2 hrl
  rw [hob, hr]
  have Hr := Lib.hid hr
  clear H1 HK1 hob hr
  go_loopw [7, 8] (fun v i wr => ∃ (k : Nat) (l : Nm) (kk : Nat) (x : Int), l.length = k ∧ (k : Int) ≤ n ∧ i = .int .i64 (k : Int) ∧ Keep w wr ∧ ob ≤ wr.heap.size ∧ IsR3 wr r S kk x ∧ kk ≤ S.length ∧ OwnF entC 2 98 wr ob v l ∧ RowKit.Hid (∀ p ∈ l, p.1.length ≤ 16 ∧ 0 ≤ p.2 ∧ p.2 ≤ 4611686018427387904)) (fun _ i _ => (n - (intOf i)).toNat)
  case atStart => exact ⟨0, [], k1, y, rfl, by omega, rfl, HK2.out, hsz2, HR2.out, hk1, HV2.out, Lib.hid (fun p hp => by cases hp)⟩
  case round =>
    clear HK2 HR2 HV2 hsz2 hk1
    obtain ⟨k, l, kk, x, hlk, hk, rfl, hK, hsz, hR, hkk, hV, Hl⟩ := hrel
    have HK := Lib.hid hK
    have HR := Lib.hid hR
    have HV := Lib.hid hV
    have Hlk := Lib.hid hlk
    have z2 : wr.cell? ⟨r, 2, none⟩ = some (.int .i64 x) := blk_cell hR 2
    clear hK hR hV hlk
    by_cases hlt : (k : Int) < n ∧ x = 0
    · obtain ⟨hkn, rfl⟩ := hlt
      have hrr := blk_lt HR.out
      have Hgl := Lib.hid (own_ltG HV.out)
      go_wp2_with fail
      obtain ⟨xb, hxb⟩ : ∃ xb, wr.heap.size = xb := ⟨_, rfl⟩
      have HB3 : RowKit.Hid (World.blk (wr.alloc (.cells #[.string ⟨#[]⟩, .int .i64 0] 98)) xb #[.string ⟨#[]⟩, .int .i64 0] 98) := Lib.hid (blk_new_at hxb.symm _ _)
      have HR3 := Lib.hid (blk_alloc HR.out (.cells #[.string ⟨#[]⟩, .int .i64 0] 98))
      have HV3 : RowKit.Hid (OwnF entC 2 98 (wr.alloc (.cells #[.string ⟨#[]⟩, .int .i64 0] 98)) ob u7 l) := Lib.hid (HV.out.alloc _)
      have HK3 := Lib.hid (HK.out.alloc (.cells #[.string ⟨#[]⟩, .int .i64 0] 98))
      have hs3 : (wr.alloc (.cells #[.string ⟨#[]⟩, .int .i64 0] 98)).heap.size = wr.heap.size + 1 := by simp
      rw [hxb]
      generalize wr.alloc (.cells #[.string ⟨#[]⟩, .int .i64 0] 98) = w3 at *
      clear HR HV HK z2
      refine (r3text_some S kk 0 r w3 HR3.out hkk hSl).mono ?_
      rintro e w4 ⟨s, y4, k4, rfl, hr4, hm4, hk4, hs16⟩
      have HR4 := Lib.hid hr4
      have HB4 := Lib.hid (blk_mod hm4 HB3.out (by omega))
      have e0 : w4.cell? ⟨xb, 0, none⟩ = some (.string ⟨#[]⟩) := blk_cell HB4.out 0
      have f0 : w4.frozen? ⟨xb, 0, none⟩ = false := blk_free HB4.out _ rfl
      have hrx : r ≠ xb := by omega
      have HV4 : RowKit.Hid (OwnF entC 2 98 w4 ob u7 l) := Lib.hid (own_modF HV3.out hm4 (by omega))
      have HK4 := Lib.hid (HK3.out.new hm4 (by rw [Hr.out]; omega))
      have hs4 := hm4.size
      clear HR3 HB3 HV3 HK3 hr4 hm4
      go_wp2_with fail
      have hm5 : Mod (· = xb) w4 (w4.setCell ⟨xb, 0, none⟩ (.string ⟨s.toArray⟩)) := Mod.setCell (S := fun b => b = xb) (p := ⟨xb, 0, none⟩) (Mod.refl _ _) (.inl rfl) _
      have HB5 : RowKit.Hid (World.blk (w4.setCell ⟨xb, 0, none⟩ (.string ⟨s.toArray⟩)) xb #[.string ⟨s.toArray⟩, .int .i64 0] 98) := Lib.hid (blk_set HB4.out 0 _)
      have HR5 := Lib.hid (blk_mod hm5 HR4.out hrx)
      have HV5 : RowKit.Hid (OwnF entC 2 98 (w4.setCell ⟨xb, 0, none⟩ (.string ⟨s.toArray⟩)) ob u7 l) := Lib.hid (own_modG HV4.out hm5 fun b o f m c e => by have := Hgl.out b o f m c e; omega)
      have HK5 := Lib.hid (HK4.out.new hm5 (by rw [Hr.out]; omega))
      have hs5 := hm5.size
      generalize w4.setCell ⟨xb, 0, none⟩ (.string ⟨s.toArray⟩) = w5 at *
      clear hm5 HB4 HR4 HV4 HK4 e0 f0
      refine (r3num_some S k4 y4 4611686018427387904 r w5 HR5.out hk4 hSl (by omega)).mono ?_
      rintro e w6 ⟨m, y6, k6, rfl, hr6, hm6, hk6, hm0, hm9⟩
      have HR6 : RowKit.Hid (IsR3 w6 r S k6 y6) := Lib.hid hr6
      have HB6 := Lib.hid (blk_mod hm6 HB5.out (by omega))
      have e0 : w6.cell? ⟨xb, 0, none⟩ = some (.string ⟨s.toArray⟩) := blk_cell HB6.out 0
      have e1 : w6.cell? ⟨xb, 1, none⟩ = some (.int .i64 0) := blk_cell HB6.out 1
      have f1 : w6.frozen? ⟨xb, 1, none⟩ = false := blk_free HB6.out _ rfl
      have HV6 : RowKit.Hid (OwnF entC 2 98 w6 ob u7 l) := Lib.hid (own_modF HV5.out hm6 (by omega))
      have HK6 := Lib.hid (HK5.out.new hm6 (by rw [Hr.out]; omega))
      have hs6 := hm6.size
      have hm7 : Mod (· = xb) w6 (w6.setCell ⟨xb, 1, none⟩ (.int .i64 m)) := Mod.setCell (S := fun b => b = xb) (p := ⟨xb, 1, none⟩) (Mod.refl _ _) (.inl rfl) _
      have HB7 : RowKit.Hid (World.blk (w6.setCell ⟨xb, 1, none⟩ (.int .i64 m)) xb #[.string ⟨s.toArray⟩, .int .i64 m] 98) := Lib.hid (blk_set HB6.out 1 _)
      have HR7 := Lib.hid (blk_mod hm7 HR6.out hrx)
      have HV7 : RowKit.Hid (OwnF entC 2 98 (w6.setCell ⟨xb, 1, none⟩ (.int .i64 m)) ob u7 l) := Lib.hid (own_modG HV6.out hm7 fun b o f m c e => by have := Hgl.out b o f m c e; omega)
      have HK7 := Lib.hid (HK6.out.new hm7 (by rw [Hr.out]; omega))
      have hs7 := hm7.size
      have g0 : (w6.setCell ⟨xb, 1, none⟩ (.int .i64 m)).cell? ⟨xb, 0, none⟩ = some (.string ⟨s.toArray⟩) := blk_cell HB7.out 0
      have g1 : (w6.setCell ⟨xb, 1, none⟩ (.int .i64 m)).cell? ⟨xb, 1, none⟩ = some (.int .i64 m) := blk_cell HB7.out 1
      obtain ⟨v2, w8, hr8, ho8, hk8, hmm8⟩ := append_struct (f := entC) (x := (s, m)) (P := Tryz.prog) Tryz.underlying73 info_ent rfl (by decide) entC_len ob u7 l (w6.setCell ⟨xb, 1, none⟩ (.int .i64 m)) w HV7.out (entC_one (s, m)) (by have := Hlk.out; unfold maxLen; omega) (by have := Hlk.out; omega) (by omega) HK7.out (by rw [Hr.out]; omega)
      rw [show (w6.setCell ⟨xb, 1, none⟩ (.int .i64 m)).heap.size = w6.heap.size by simp [World.setCell]] at hr8
      have Hr8 := Lib.hid hr8
      have Ho8 := Lib.hid ho8
      have Hk8 := Lib.hid hk8
      have HR8 := Lib.hid (blk_mod hmm8 HR7.out (by omega))
      have hs8 := hmm8.size
      have Hl2 : RowKit.Hid (∀ q ∈ l ++ [(s, m)], q.1.length ≤ 16 ∧ 0 ≤ q.2 ∧ q.2 ≤ 4611686018427387904) := Lib.hid (fun q hq => by
        rcases List.mem_append.1 hq with h | h
        · exact Hl.out q h
        · rw [List.mem_singleton] at h; subst h; exact ⟨hs16, hm0, hm9⟩)
      have hll : (l ++ [(s, m)]).length = k + 1 := by rw [List.length_append, Hlk.out]; rfl
      clear hm7 hr6 hm6 HB5 HR5 HV5 HK5 HR6 HB6 HV6 HK6 hr8 ho8 hk8 hmm8 HB7 HR7 HV7 HK7
      go_wp2_with ((at_builtin; refine wpList_append_run Hr8.out rfl rfl rfl rfl ?_))
      exact ⟨⟨k + 1, l ++ [(s, m)], k6, y6, hll, by omega, by go_num, Hk8.out, by omega, HR8.out, hk6, Ho8.out, Hl2⟩, by simp [intOf]; omega⟩
    · have HW := Lib.hid (rowF_own entC_len HV.out)
      have hl2 : l.length ≤ 4096 := by rw [Hlk.out]; omega
      have Hl2 := Lib.hid hl2
      have hcase : (¬ (k : Int) < n) ∨ ((k : Int) < n ∧ x ≠ 0) := by omega
      clear hlt hl2
      rcases hcase with hkn | ⟨hkn, hxn⟩
      all_goals
        first
          | (have hx0 : (x == 0) = false := beq_false_of_ne hxn
             clear hxn)
          | skip
        go_wp2_with fail
        refine (rentries_gen l u7 wr HW.out (fun p hp => by have := Hl.out p hp; omega) (by have := Hl2.out; omega)).mono ?_
        rintro e w4 ⟨rfl, hk4⟩
        have HR4 := Lib.hid (blk_mod hk4 HR.out id)
        have HK4 := Lib.hid (HK.out.keep hk4)
        clear hk4 HR HK HV HW z2
        cases hok : entsOk l with
        | true =>
          have hv : laysR l = .tuple #[.string ⟨(encE l).toArray⟩, .int .i64 0] := by rw [laysR, if_pos hok]
          have hq : (encE l == S) = false := beq_false_of_ne (Hbad.out l hok)
          rw [hv]
          clear hok hv
          go_wp2_with fail
          refine (r3end_some S kk x r w4 HR4.out hSl hkk).mono ?_
          rintro e w5 ⟨y5, rfl, hk5⟩
          have HK5 := Lib.hid (HK4.out.keep hk5)
          clear hk5
          by_cases hy : y5 = 0
          · subst hy
            go_wp2_with fail
            go_ret2
            exact ⟨rfl, HK5.out⟩
          · have hy0 : (y5 == 0) = false := beq_false_of_ne hy
            have hy1 : (y5 != 0) = true := bne_iff_ne.2 hy
            clear hy
            go_wp2_with fail
            go_ret2
            exact ⟨rfl, HK5.out⟩
        | false =>
          have hv : laysR l = .tuple #[.string ⟨#[]⟩, .int .i64 120] := by rw [laysR, if_neg (by rw [hok]; decide)]
          rw [hv]
          clear hok hv
          go_wp2_with fail
          refine (r3end_some S kk x r w4 HR4.out hSl hkk).mono ?_
          rintro e w5 ⟨y5, rfl, hk5⟩
          have HK5 := Lib.hid (HK4.out.keep hk5)
          clear hk5
          by_cases hy : y5 = 0
          · subst hy
            go_wp2_with fail
            go_ret2
            exact ⟨rfl, HK5.out⟩
          · have hy0 : (y5 == 0) = false := beq_false_of_ne hy
            have hy1 : (y5 != 0) = true := bne_iff_ne.2 hy
            clear hy
            go_wp2_with fail
            go_ret2
            exact ⟨rfl, HK5.out⟩
end
section
open Go.RowKit
/-- it was not read -/
def ReadNo (w : World) (e : Ending) (w' : World) : Prop := (∃ a, e = .returned (.tuple #[.pointer a, .bool false])) ∧ Keep w w'
set_option maxRecDepth 100000 in
set_option maxHeartbeats 4000000 in
theorem read_many (n : Nd) (hd : n.dir = true) (hdd : n.data = []) (hok : entsOk n.names = true) (hso : SortedN n.names) (hmany : 60 < n.names.length) (hlen : (encE n.names).length ≤ 16384) (w : World) :
    Calls Tryz.prog 29 #[nodeV n.told] w (ReadNo w) := by
  have Hok := Lib.hid hok
  have Hso := Lib.hid hso
  have Hdd := Lib.hid hdd
  have Hmany := Lib.hid hmany
  clear hok hso hdd hmany
  have Ht : RowKit.Hid (n.told = ⟨n.num, true, n.links, encE n.names⟩) := Lib.hid (by simp [Nd.told, hd])
  rw [Ht.out]
  obtain ⟨S, hS⟩ : ∃ S, encE n.names = S := ⟨_, rfl⟩
  have h1 : ¬ (16384 : Int) < S.length := by rw [← hS]; have := hlen; omega
  have Hc := Lib.hid (cells_dir hd Hdd.out)
  have HS := Lib.hid hS
  rw [hS]
  have hmm := @run_makeMap Tryz.prog
  clear hd hS hlen
  go_enter Tryz.func29, Tryz.ntmps29
  go_wp2_with fail
  rw [← HS.out]
  refine (parsee_ok n.names Hok.out _).mono ?_
  rintro e w1 ⟨v, rfl, ho, hk⟩
  have HX1 : RowKit.Hid (World.blk w1 (w.heap.size + 1) #[.int .i64 n.num, .bool true, .int .i64 n.links, .string ⟨S.toArray⟩, .map none] 70) := Lib.hid (blk_mod hk (by rw [HS.out]; exact blk_new_at (by simp) _ _) id)
  have HR1 := Lib.hid (rowF_own entC_len ho)
  have Hbase : RowKit.Hid (∀ b o f m cap, v = .slice (some ⟨b, o, f⟩) m cap → w.heap.size + 2 ≤ b) := Lib.hid (fun b o f m cap e => by
    subst e
    have := own_base ho
    simpa using this)
  have HK1 := Lib.hid (unalloc (unalloc hk))
  have hsz := blk_lt HX1.out
  clear ho hk
  obtain ⟨a, cap, rfl, hrow⟩ := HR1.out
  have HR2 := Lib.hid hrow
  have hl40 : n.names.length ≤ 4096 := by
    have h := Hok.out
    rw [entsOk, Bool.and_eq_true, decide_eq_true_eq] at h
    exact h.1
  have hl60' : decide ((n.names.length : Int) ≤ 60) = false := decide_eq_false (by have := Hmany.out; omega)
  have x3 : w1.frozen? ⟨w.heap.size + 1, 3, none⟩ = false := blk_free HX1.out _ rfl
  have x4 : w1.frozen? ⟨w.heap.size + 1, 4, none⟩ = false := blk_free HX1.out _ rfl
  have y3 : w1.cell? ⟨w.heap.size + 1, 3, none⟩ = some (.string ⟨S.toArray⟩) := blk_cell HX1.out 3
  have y4 : w1.cell? ⟨w.heap.size + 1, 4, none⟩ = some (.map none) := blk_cell HX1.out 4
  clear hrow HR1
  go_wp2_with fail
  have hB : World.blk (((w1.setCell ⟨w.heap.size + 1, 3, none⟩ (.string ⟨#[]⟩)).setCell ⟨w.heap.size + 1, 4, none⟩ (.map (some w1.heap.size))).alloc (.map #[] 0)) (w.heap.size + 1) (cellsN n w1.heap.size) 70 := by
    rw [Hc.out]
    exact blk_alloc (blk_set (blk_set HX1.out 3 _) 4 _) _
  have hm2 : Mod (· = w.heap.size + 1) w1 (((w1.setCell ⟨w.heap.size + 1, 3, none⟩ (.string ⟨#[]⟩)).setCell ⟨w.heap.size + 1, 4, none⟩ (.map (some w1.heap.size))).alloc (.map #[] 0)) := (((Mod.refl (fun x => x = w.heap.size + 1) _).setCell (p := ⟨w.heap.size + 1, 3, none⟩) (.inl rfl) _).setCell (p := ⟨w.heap.size + 1, 4, none⟩) (.inl rfl) _).alloc _
  have HB2 := Lib.hid hB
  have HM2 : RowKit.Hid (MapS (((w1.setCell ⟨w.heap.size + 1, 3, none⟩ (.string ⟨#[]⟩)).setCell ⟨w.heap.size + 1, 4, none⟩ (.map (some w1.heap.size))).alloc (.map #[] 0)) w1.heap.size []) := Lib.hid (MapN.made' (by simp [World.setCell]) ())
  have HK2 := Lib.hid (HK1.out.new hm2 (by omega))
  have HV2 := Lib.hid hm2
  have hsz2 : w1.heap.size < (((w1.setCell ⟨w.heap.size + 1, 3, none⟩ (.string ⟨#[]⟩)).setCell ⟨w.heap.size + 1, 4, none⟩ (.map (some w1.heap.size))).alloc (.map #[] 0)).heap.size := by simp [World.alloc, World.setCell]
  clear hB hm2 x3 x4 y3 y4 hmm HX1 HK1
  generalize (((w1.setCell ⟨w.heap.size + 1, 3, none⟩ (.string ⟨#[]⟩)).setCell ⟨w.heap.size + 1, 4, none⟩ (.map (some w1.heap.size))).alloc (.map #[] 0)) = w2 at *
  go_loopw [42] (fun i wr => ∃ k : Nat, k ≤ n.names.length ∧ i = .int .i64 (k : Int) ∧ Keep w wr ∧ World.blk wr (w.heap.size + 1) (cellsN n w1.heap.size) 70 ∧ MapS wr w1.heap.size (n.names.take k) ∧ Mod (· = w.heap.size + 1) w1 wr ∧ w2.heap.size ≤ wr.heap.size) (fun i _ => n.names.length - (intOf i).toNat)
  case atStart => exact ⟨0, by omega, rfl, HK2.out, HB2.out, HM2.out, HV2.out, Nat.le_refl _⟩
  case round =>
    clear HK2 HB2 HM2 HV2
    obtain ⟨k, hk, rfl, hK, hB, hM, hV, hsz3⟩ := hrel
    have HK := Lib.hid hK
    have HB := Lib.hid hB
    have HM := Lib.hid hM
    have HV := Lib.hid hV
    clear hK hB hM hV
    by_cases hlt : k < n.names.length
    · obtain ⟨x, hx⟩ : ∃ x, n.names[k]? = some x := ⟨_, List.getElem?_eq_getElem hlt⟩
      have Hx := Lib.hid hx
      obtain ⟨b, o, rfl, hc⟩ := HR2.out k x hx
      clear hx
      have c0 : wr.cell? ⟨b, o + k * 2, none⟩ = some (.string ⟨x.1.toArray⟩) := by have h := hc 0 _ rfl; rw [HV.out.cell (p := ⟨b, o + k * 2, none⟩) (lt_of_cell h) (by have := Hbase.out _ _ _ _ _ rfl; simp only; omega)]; exact h
      have c1 : wr.cell? ⟨b, o + k * 2 + 1, none⟩ = some (.int .i64 x.2) := by have h := hc 1 _ rfl; rw [HV.out.cell (p := ⟨b, o + k * 2 + 1, none⟩) (lt_of_cell h) (by have := Hbase.out _ _ _ _ _ rfl; simp only; omega)]; exact h
      have x4 : wr.cell? ⟨w.heap.size + 1, 4, none⟩ = some (.map (some w1.heap.size)) := by rw [blk_cell HB.out 4, Hc.out]; rfl
      have z0 : w.heap.size + 1 < wr.heap.size := blk_lt HB.out
      have hxb := ents_all Hok.out x (List.mem_of_getElem? Hx.out)
      clear hc
      go_wp2_with fail
      refine wp_region_qd0 8 (by kernel_rfl) (by kernel_rfl) ?_
      simp only [List.take_succ_cons, List.take_zero, List.drop_succ_cons, List.drop_zero]
      repeat (quiet_step (fail))
      refine wpQuiet_nil ?_
      intro _ hw'
      obtain ⟨nq, rfl⟩ := hw'
      have hkx : Keep wr ((wr.alloc (.cells #[.string ⟨x.1.toArray⟩, .int .i64 x.2] 98)).drewN nq) := ((Mod.refl _ wr).alloc _).drewN nq
      have HM1 := Lib.hid (HM.out.mod hkx id)
      have HB1 := Lib.hid (blk_mod hkx HB.out id)
      have HK1 := Lib.hid (HK.out.keep hkx)
      have HV1 := Lib.hid (HV.out.keep hkx)
      have hsz1 := hkx.size
      clear hkx HM HB HK HV c0 c1 x4
      generalize ((wr.alloc (.cells #[.string ⟨x.1.toArray⟩, .int .i64 x.2] 98)).drewN nq) = wx at *
      go_wp2_with ((at_mapUpdate
                    refine wpList_store_N HM1.out Tryz.underlying68 Tryz.underlying9 Tryz.underlying3 x.1 (by omega) x.2 (by omega) (by rw [List.length_take]; omega) rfl rfl rfl rfl rfl ?_
                    intro w3 hm3 hmod3
                    rw [take_put Hso.out Hx.out] at hm3
                    have HM3 := Lib.hid hm3
                    have HB3 := Lib.hid (blk_mod hmod3 HB1.out (by omega))
                    have HK3 := Lib.hid (HK1.out.new hmod3 (by omega))
                    have HV3 := Lib.hid (HV1.out.new hmod3 (Nat.le_refl _))
                    have hsz4 := hmod3.size
                    clear hm3 hmod3 HM1 HB1 HK1 HV1))
      refine ⟨⟨k + 1, by omega, by go_num, HK3.out, HB3.out, HM3.out, HV3.out, by omega⟩, by simp [intOf]; omega⟩
    · obtain rfl : k = n.names.length := by omega
      rw [List.take_length] at HM
      go_wp2_with fail
      go_ret2
      exact ⟨⟨_, rfl⟩, HK.out⟩
set_option maxRecDepth 100000 in
set_option maxHeartbeats 4000000 in
theorem read_long (x : Nt) (hl : 16384 < x.data.length) (hL : x.data.length ≤ 1099511627776) (w : World) : Calls Tryz.prog 29 #[nodeV x] w (ReadNo w) := by
  have h1 : (16384 : Int) < x.data.length := by omega
  have h2 : (x.data.length : Int) ≤ 1099511627776 := by omega
  clear hl
  go_enter Tryz.func29, Tryz.ntmps29
  unfold nodeV
  go_wp2_with fail
  go_ret2
  exact ⟨⟨_, rfl⟩, ((Mod.refl _ w).alloc _).alloc _⟩
set_option maxRecDepth 100000 in
set_option maxHeartbeats 4000000 in
theorem read_bad (x : Nt) (hd : x.dir = true) (hl : x.data.length ≤ 16384) (hbad : NoEnts x.data) (w : World) (hg : ErrT w) : Calls Tryz.prog 29 #[nodeV x] w (ReadNo w) := by
  have h1 : ¬ (16384 : Int) < x.data.length := by omega
  have Hbad := Lib.hid hbad
  have Hg := Lib.hid hg
  have hmm := @run_makeMap Tryz.prog
  obtain ⟨num, dir, links, S⟩ := x
  simp only at hd hl h1 Hbad
  subst hd
  clear hbad hg
  go_enter Tryz.func29, Tryz.ntmps29
  unfold nodeV
  go_wp2_with fail
  refine (parsee_bad S (by omega) Hbad.out _ (Hg.out.keep (((Mod.refl _ w).alloc _).alloc _))).mono ?_
  rintro e w1 ⟨rfl, hk⟩
  have HX1 : RowKit.Hid (World.blk w1 (w.heap.size + 1) #[.int .i64 num, .bool true, .int .i64 links, .string ⟨S.toArray⟩, .map none] 70) := Lib.hid (blk_mod hk (blk_new_at (by simp) _ _) id)
  have HK1 := Lib.hid (unalloc (unalloc hk))
  have x3 : w1.frozen? ⟨w.heap.size + 1, 3, none⟩ = false := blk_free HX1.out _ rfl
  have x4 : w1.frozen? ⟨w.heap.size + 1, 4, none⟩ = false := blk_free HX1.out _ rfl
  have y3 : w1.cell? ⟨w.heap.size + 1, 3, none⟩ = some (.string ⟨S.toArray⟩) := blk_cell HX1.out 3
  have y4 : w1.cell? ⟨w.heap.size + 1, 4, none⟩ = some (.map none) := blk_cell HX1.out 4
  have hsz := blk_lt HX1.out
  clear hk
  go_wp2_with fail
  refine wp_loop_rounds 1 ?_
  rw [rounds_succ]
  go_wp2_with fail
  go_ret2
  have hm2 : Mod (· = w.heap.size + 1) w1 (((w1.setCell ⟨w.heap.size + 1, 3, none⟩ (.string ⟨#[]⟩)).setCell ⟨w.heap.size + 1, 4, none⟩ (.map (some w1.heap.size))).alloc (.map #[] 0)) := (((Mod.refl (fun x => x = w.heap.size + 1) _).setCell (p := ⟨w.heap.size + 1, 3, none⟩) (.inl rfl) _).setCell (p := ⟨w.heap.size + 1, 4, none⟩) (.inl rfl) _).alloc _
  exact ⟨⟨_, rfl⟩, HK1.out.new hm2 (by omega)⟩
/-- a told node can be read -/
def ReadsT (x : Nt) : Prop := ∃ n, Reads n ∧ n.told = x
def ReadAny (w : World) (x : Nt) (e : Ending) (w' : World) : Prop := (∃ n, Reads n ∧ n.told = x ∧ ReadPost w n e w') ∨ (¬ ReadsT x ∧ ReadNo w e w')
theorem readx_any (x : Nt) (hL : x.data.length ≤ 1099511627776) (w : World) (hg : ErrT w) : Calls Tryz.prog 29 #[nodeV x] w (ReadAny w x) := by
  by_cases hl : x.data.length ≤ 16384
  · cases hd : x.dir with
    | false =>
      have ht : (⟨x.num, false, x.links, x.data, []⟩ : Nd).told = x := by
        obtain ⟨num, dir, links, S⟩ := x
        simp only at hd
        subst hd
        simp [Nd.told]
      have hr : Reads ⟨x.num, false, x.links, x.data, []⟩ := ⟨fun _ => ⟨rfl, hl⟩, (fun h => by cases h), rfl, List.Pairwise.nil, (by simp)⟩
      have h := readn_ok ⟨x.num, false, x.links, x.data, []⟩ hr w
      rw [ht] at h
      exact h.mono fun e w' h => .inl ⟨_, hr, ht, h⟩
    | true =>
      by_cases hex : ∃ l, entsOk l = true ∧ encE l = x.data
      · obtain ⟨l, hok, hdat⟩ := hex
        have ht : (⟨x.num, true, x.links, [], l⟩ : Nd).told = x := by
          obtain ⟨num, dir, links, S⟩ := x
          simp only at hd hdat
          subst hd
          simp [Nd.told, hdat]
        have hso : SortedN l := ents_sortedN hok
        by_cases hm : l.length ≤ 60
        · have hr : Reads ⟨x.num, true, x.links, [], l⟩ := ⟨(fun h => by cases h), fun _ => rfl, hok, hso, hm⟩
          have h := readn_ok ⟨x.num, true, x.links, [], l⟩ hr w
          rw [ht] at h
          exact h.mono fun e w' h => .inl ⟨_, hr, ht, h⟩
        · have h := read_many ⟨x.num, true, x.links, [], l⟩ rfl rfl hok hso (by show 60 < l.length; omega) (by show (encE l).length ≤ 16384; rw [hdat]; exact hl) w
          rw [ht] at h
          refine h.mono fun e w' h => .inr ⟨?_, h⟩
          rintro ⟨n, hn, hnt⟩
          have hnd : n.dir = true := by
            have := congrArg Nt.dir hnt
            exact this.trans hd
          have hnn : encE n.names = encE l := by
            have := congrArg Nt.data hnt
            simp only [Nd.told, hnd, if_true] at this
            rw [this, hdat]
          have := encE_inj hn.ents hok hnn
          have h60 := hn.many
          rw [this] at h60
          exact hm h60
      · have hbad : NoEnts x.data := fun l hok e => hex ⟨l, hok, e⟩
        refine (read_bad x hd hl hbad w hg).mono fun e w' h => .inr ⟨?_, h⟩
        rintro ⟨n, hn, hnt⟩
        have hnd : n.dir = true := by
          have := congrArg Nt.dir hnt
          exact this.trans hd
        refine hbad n.names hn.ents ?_
        have := congrArg Nt.data hnt
        simpa only [Nd.told, hnd, if_true] using this
  · refine (read_long x (by omega) hL w).mono fun e w' h => .inr ⟨?_, h⟩
    rintro ⟨n, hn, hnt⟩
    have h1 := congrArg Nt.data hnt
    cases hnd : n.dir with
    | true =>
      simp only [Nd.told, hnd, if_true] at h1
      have := encE_small hn.ents hn.many
      rw [h1] at this
      exact hl this
    | false =>
      simp only [Nd.told, hnd] at h1
      have := (hn.file hnd).2
      have h2 : n.data = x.data := by simpa using h1
      rw [h2] at this
      exact hl this
end
end Go.Proofs.YthmpblccplphfaaGreatDoor
