/-
  A command that came in, opened; what it reads is of small bulk.
  A world in which the listed variables read as the rows say; one of them is a handle of a type.
  .. that world meets the rows' list.
  A slice of commands that came in, opened.
-/
import Derived.Test.YthmpblccplphfaaGreatDoorRows
import Derived.Test.YthmpblccplphfaaGreatDoorCards
import Derived.Test.YthmpblccplphfaaGreatDoorTie
import Derived.Test.YthmpblccplphfaaGreatDoorClose
import Derived.Test.YthmpblccplphfaaGreatDoorFilFixed
import Derived.OpenShut
import Derived.Lay
import Derived.Deep.DeepHandedRow
import Derived.Deep.DeepWitnessRowRef
import Derived.LaidHandle
import Derived.LaidLaws
import Derived.Deep.Slices
import Derived.Deep.Fields
import Derived.ChangeSame
namespace Go.Proofs.YthmpblccplphfaaGreatDoor
section
section
open Go.ChangeShapes Go.WideShapes Go.ChangeAt Go.RowKit
theorem i64_of_wf {n : Int} (h : (Lit.int .i64 n).wf = true) : -9223372036854775808 ≤ n ∧ n ≤ 9223372036854775807 := bounds_i64 h
theorem bulk_part {H : Type} {d : DataW H} {l : List (DataW H)} (h : d ∈ l) : Rows.uptoBulk d ≤ Rows.uptoBulkAll l := by
  induction l with
  | nil => cases h
  | cons x r ih =>
    simp only [Rows.uptoBulkAll]
    cases List.mem_cons.1 h with
    | inl e => subst e; omega
    | inr e => have := ih e; omega
theorem upto_str {H : Type} {ds : List (DataW H)} (hk : Rows.uptoSmall H ds = true) {j : Nat} {l : List UInt8} (hj : ds[j]? = some (.lit (.string l))) : l.length ≤ 1048576 := by
  have h1 := bulk_part (List.mem_of_getElem? hj)
  have h2 : Rows.uptoBulkAll ds ≤ 1048576 := by simpa [Rows.uptoSmall] using hk
  have h3 : Rows.uptoBulk (DataW.lit (H := H) (.string l)) = l.length + 1 := by simp [Rows.uptoBulk]
  omega
section
variable {H : Type} {enc : TypeId × Value → H}
def cmdD (c : Cmd) : DataW H := .agg [.lit (.int .i64 c.kind), .lit (.string c.path), .lit (.string c.dest), .lit (.int .i64 c.pos), .lit (.string c.data)]
set_option maxRecDepth 100000 in
theorem open_cmd {W : World} {base : Nat} {v : Value} {d : DataW H} {p : List MemPlace} (hok : Value.okWide Tryz.prog W .any base 38 v) (h : DataW.Trod enc Tryz.prog W 0 (fun _ => true) true 38 v d p) :
    ∃ c : Cmd, v = cmdV c ∧ d = cmdD c ∧ (-9223372036854775808 ≤ c.kind ∧ c.kind ≤ 9223372036854775807) ∧ (-9223372036854775808 ≤ c.pos ∧ c.pos ≤ 9223372036854775807) := by
  obtain ⟨cs, rfl, hsz⟩ := okWide_struct Tryz.underlying38 hok
  obtain ⟨c0, c1, c2, c3, c4, rfl⟩ : ∃ c0 c1 c2 c3 c4, cs = #[c0, c1, c2, c3, c4] := by
    have hs : cs.size = 5 := hsz.trans (by kernel_rfl)
    obtain ⟨l⟩ := cs
    match l, hs with
    | [a, b, c, d, e], _ => exact ⟨a, b, c, d, e, rfl⟩
  obtain ⟨fuel, hf⟩ := h
  obtain ⟨xs, n, _, hx, _, hlen, hget⟩ := DataW.trod_struct Tryz.underlying38 hf
  have e3 : Tryz.prog.cellsOf 3 = 1 := by kernel_rfl
  have e9 : Tryz.prog.cellsOf 9 = 1 := by kernel_rfl
  obtain ⟨x0, x1, x2, x3, x4, rfl⟩ : ∃ x0 x1 x2 x3 x4, xs = [x0, x1, x2, x3, x4] := by
    match xs, hlen with
    | [a, b, c, d, e], _ => exact ⟨a, b, c, d, e, rfl⟩
  have h0 := hget 0 _ rfl
  have h1 := hget 1 _ rfl
  have h2 := hget 2 _ rfl
  have h3 := hget 3 _ rfl
  have h4 := hget 4 _ rfl
  obtain ⟨n0, f0, rfl, w0⟩ := DataW.trod_int Tryz.underlying3 h0
  obtain ⟨s1, f1, rfl, _⟩ := DataW.trod_string Tryz.underlying9 h1
  obtain ⟨s2, f2, rfl, _⟩ := DataW.trod_string Tryz.underlying9 h2
  obtain ⟨n3, f3, rfl, w3⟩ := DataW.trod_int Tryz.underlying3 h3
  obtain ⟨s4, f4, rfl, _⟩ := DataW.trod_string Tryz.underlying9 h4
  have g0 : c0 = Value.int .i64 n0 := by
    have h : List.take (Tryz.prog.cellsOf 3) (List.drop 0 (Value.agg #[c0, c1, c2, c3, c4]).cells.toList) = [Value.int .i64 n0] := f0
    rw [e3] at h
    simpa [Value.cells] using h
  have g1 : c1 = Value.string s1 := by
    have h : List.take (Tryz.prog.cellsOf 9) (List.drop 1 (Value.agg #[c0, c1, c2, c3, c4]).cells.toList) = [Value.string s1] := f1
    rw [e9] at h
    simpa [Value.cells] using h
  have g2 : c2 = Value.string s2 := by
    have h : List.take (Tryz.prog.cellsOf 9) (List.drop 2 (Value.agg #[c0, c1, c2, c3, c4]).cells.toList) = [Value.string s2] := f2
    rw [e9] at h
    simpa [Value.cells] using h
  have g3 : c3 = Value.int .i64 n3 := by
    have h : List.take (Tryz.prog.cellsOf 3) (List.drop 3 (Value.agg #[c0, c1, c2, c3, c4]).cells.toList) = [Value.int .i64 n3] := f3
    rw [e3] at h
    simpa [Value.cells] using h
  have g4 : c4 = Value.string s4 := by
    have h : List.take (Tryz.prog.cellsOf 9) (List.drop 4 (Value.agg #[c0, c1, c2, c3, c4]).cells.toList) = [Value.string s4] := f4
    rw [e9] at h
    simpa [Value.cells] using h
  subst g0 g1 g2 g3 g4
  have hd : d = _ := congrArg Prod.fst hx
  exact ⟨⟨n0, s1.data.toList, s2.data.toList, n3, s4.data.toList⟩, rfl, hd, i64_of_wf w0, i64_of_wf w3⟩
theorem upto_cmd {ds : List (DataW H)} (hk : Rows.uptoSmall H ds = true) {j : Nat} {c : Cmd} (hj : ds[j]? = some (cmdD c)) (hp : -9223372036854775808 ≤ c.pos ∧ c.pos ≤ 9223372036854775807) : c.Small := by
  have h1 := bulk_part (List.mem_of_getElem? hj)
  have h2 : Rows.uptoBulkAll ds ≤ 1048576 := by simpa [Rows.uptoSmall] using hk
  have h3 : Rows.uptoBulk (cmdD (H := H) c) = 1 + (c.path.length + 1 + (c.dest.length + 1 + (1 + (c.data.length + 1)))) + 1 := by simp [cmdD, Rows.uptoBulk, Rows.uptoBulkAll]
  exact ⟨by omega, by omega, by omega, hp⟩
end
end
section
open Go.ChangeShapes Go.WideShapes Go.ChangeAt Go.RowKit
noncomputable def world0 (os : Os) : World :=
  let w0 := World.laidAll Tryz.prog os (Rows.fileCutsRow.laid.filter fun x => x.2.handleName?.isNone)
  { w0 with heap := w0.heap.modify 3 fun
      | .cells _ t frozen => .cells #[.iface 267 (.agg #[typeHandle Tryz.prog 152])] t frozen
      | o => o }
theorem world0_os (os : Os) : (world0 os).os = os := by kernel_rfl
end
section
open Go.ChangeShapes Go.WideShapes Go.ChangeAt Go.RowKit
set_option maxRecDepth 100000 in
theorem laid_met (os : Os) (args : Array Value) : laidMetH Tryz.prog Rows.fileCutsRow.laid ((world0 os).forCall (fun _ _ => 0) ⟨#[], args, []⟩).memory :=
  laidMetH_of_parts (laidMet_of_run' 8 (by kernel_rfl) (by kernel_rfl)) (by kernel_rfl)
end
end
section
open Go.ChangeShapes Go.WideShapes Go.Deep Go.RowKit
section
variable {H : Type} {enc : TypeId × Value → H} {P : Program} {w : World} {base : Nat} {spare : Nat → Bool} {held : Bool}
theorem open_slice_fields {t e : TypeId} {fs : Array Field} {fuel : Nat} {cs : List Value} {x : DataW H × List MemPlace} (ht : P.underlying t = some (.slice e)) (he : P.underlying e = some (.struct fs))
    (hone : oneCellFields P fs = true) (hC : P.cellsOf e = fs.size) (h : DataW.trod enc P w base spare held fuel t cs = some x) :
    (cs = [.slice none 0 0] ∧ x = (.nil, [])) ∨
    ∃ (a : Addr) (len cap m : Nat) (D : Nat → DataW H) (Pl : Nat → List MemPlace), cs = [.slice (some a) len cap] ∧ base ≤ a.block ∧ len ≤ cap ∧ cap ≤ maxLen ∧ m = (if spare a.block then cap else len) ∧
      x = (.slice ((List.range len).map D) ((List.range (m - len)).map fun j => D (len + j)), MemPlace.row a (m * fs.size) ++ (List.range m).flatMap Pl) ∧
      ∀ i, i < m → ∃ (ys : List (DataW H × List MemPlace)) (n : Nat), D i = .agg (ys.map (·.1)) ∧ Pl i = ys.flatMap (·.2) ∧ ys.length = fs.size ∧
        ∀ (j : Nat) (f : Field), fs[j]? = some f → ∃ (v : Value) (y : DataW H × List MemPlace), w.cell? (a.add (i * fs.size + j)) = some v ∧ ys[j]? = some y ∧ DataW.trod enc P w base spare held n f.type [v] = some y := by
  rcases open_slice ht h with h0 | ⟨a, len, cap, m, n, D, Pl, hcs, hb, hl, hm, hmm, hx, hi⟩
  · exact .inl h0
  · refine .inr ⟨a, len, cap, m, D, Pl, hcs, hb, hl, hm, hmm, by rw [hC] at hx; exact hx, fun i him => ?_⟩
    obtain ⟨cs', hc, ht'⟩ := hi i him
    rw [hC] at hc
    obtain ⟨ys, n', hn', hy, hlen, hyl, hf⟩ := DataW.trod_struct he ht'
    obtain ⟨_, hcl, hat⟩ := World.cells?_some hc
    simp only [Prod.mk.injEq] at hy
    refine ⟨ys, n', hy.1, hy.2, hyl, fun j f hj => ?_⟩
    obtain ⟨ho, hk⟩ := hone_of hone j f hj
    have hjl : j < fs.size := (Array.getElem?_eq_some_iff.1 hj).1
    have hcell := hat j hjl
    have hv : cs'[j]? = some (cs'[j]'(by omega)) := List.getElem?_eq_getElem (by omega)
    have h1 := hf j f hj
    rw [ho, hk] at h1
    have hone' : (cs'.drop j).take 1 = [cs'[j]'(by omega)] := by
      rw [List.drop_eq_getElem_cons (by omega)]
      rfl
    rw [hone'] at h1
    have hys : ys[j]? = some (ys[j]'(by omega)) := List.getElem?_eq_getElem (by omega)
    refine ⟨_, _, ?_, hys, h1.trans hys⟩
    rw [← Go.Deep.add_add, hcell, hv]
end
def cmdL (c : Cmd) : List Value := (cmdC c).toList
theorem cmdL_len (c : Cmd) : (cmdL c).length = 5 := rfl
theorem spot_none {W : World} {b o : Nat} {sp : Option Nat} {u : Value} (h : W.cell? ((⟨b, o, sp⟩ : Addr).add 0) = some u) : sp = none := by
  rcases sp with _ | q
  · rfl
  · exfalso
    simp [Addr.add, World.cell?] at h
    cases hb : W.heap[b]? with
    | none => simp [hb] at h
    | some ob => cases ob <;> simp [hb] at h
section
variable {H : Type} {enc : TypeId × Value → H}
set_option maxRecDepth 100000 in
theorem open_cmds {W : World} {base : Nat} {v : Value} {d : DataW H} {p : List MemPlace} {ds : List (DataW H)} (hok : Value.okWide Tryz.prog W .any base 34 v) (h : DataW.Trod enc Tryz.prog W 0 (fun _ => true) true 34 v d p)
    (hk : Rows.uptoSmall H ds = true) {j : Nat} (hj : ds[j]? = some d) :
    ∃ l : List Cmd, RowF cmdL 5 W v l ∧ l.length ≤ 1048576 ∧ ∀ c ∈ l, c.Small ∧ -9223372036854775808 ≤ c.kind ∧ c.kind ≤ 9223372036854775807 := by
  obtain ⟨a0, len, cap, rfl⟩ := okWide_slice Tryz.underlying34 hok
  obtain ⟨fuel, hf⟩ := h
  have hbulk := bulk_part (List.mem_of_getElem? hj)
  have hb2 : Rows.uptoBulkAll ds ≤ 1048576 := by simpa [Rows.uptoSmall] using hk
  rcases open_slice_fields Tryz.underlying34 Tryz.underlying38 (by kernel_rfl) (by kernel_rfl) hf with ⟨hcs, _⟩ | ⟨a, len', cap', m, D, Pl, hcs, _, hl, hm, hmm, hx, hi⟩
  · simp [Value.cells] at hcs
    obtain ⟨rfl, rfl, rfl⟩ := hcs
    exact ⟨[], ⟨none, 0, rfl, fun j x h => by simp at h⟩, by simp, fun c hc => by cases hc⟩
  · simp [Value.cells] at hcs
    obtain ⟨rfl, rfl, rfl⟩ := hcs
    have hx1 := congrArg Prod.fst hx
    simp only at hx1
    subst hx1
    simp only [if_true] at hmm
    have each : ∀ i, i < len → ∃ c : Cmd, (∀ k u, (cmdL c)[k]? = some u → W.cell? (a.add (i * 5 + k)) = some u) ∧ D i = cmdD c ∧ (-9223372036854775808 ≤ c.pos ∧ c.pos ≤ 9223372036854775807) ∧ (-9223372036854775808 ≤ c.kind ∧ c.kind ≤ 9223372036854775807) := by
      intro i hil
      obtain ⟨ys, n, hD, _, hyl, hcell⟩ := hi i (by omega)
      obtain ⟨z0, z1, z2, z3, z4, rfl⟩ : ∃ z0 z1 z2 z3 z4, ys = [z0, z1, z2, z3, z4] := by
        have hs : ys.length = 5 := hyl
        match ys, hs with
        | [a, b, c, d, e], _ => exact ⟨a, b, c, d, e, rfl⟩
      obtain ⟨v0, y0, c0, e0, t0⟩ := hcell 0 _ rfl
      obtain ⟨v1, y1, c1, e1, t1⟩ := hcell 1 _ rfl
      obtain ⟨v2, y2, c2, e2, t2⟩ := hcell 2 _ rfl
      obtain ⟨v3, y3, c3, e3, t3⟩ := hcell 3 _ rfl
      obtain ⟨v4, y4, c4, e4, t4⟩ := hcell 4 _ rfl
      obtain ⟨n0, f0, rfl, w0⟩ := DataW.trod_int Tryz.underlying3 t0
      obtain ⟨s1, f1, rfl, _⟩ := DataW.trod_string Tryz.underlying9 t1
      obtain ⟨s2, f2, rfl, _⟩ := DataW.trod_string Tryz.underlying9 t2
      obtain ⟨n3, f3, rfl, w3⟩ := DataW.trod_int Tryz.underlying3 t3
      obtain ⟨s4, f4, rfl, _⟩ := DataW.trod_string Tryz.underlying9 t4
      injection f0 with f0; injection f1 with f1; injection f2 with f2; injection f3 with f3; injection f4 with f4
      subst f0 f1 f2 f3 f4
      refine ⟨⟨n0, s1.data.toList, s2.data.toList, n3, s4.data.toList⟩, fun k u hku => ?_, ?_, i64_of_wf w3, i64_of_wf w0⟩
      · match k, hku with
        | 0, h => cases h; exact c0
        | 1, h => cases h; exact c1
        | 2, h => cases h; exact c2
        | 3, h => cases h; exact c3
        | 4, h => cases h; exact c4
        | k + 5, h => simp [cmdL, cmdC] at h
      · have q0 := Option.some.inj e0
        have q1 := Option.some.inj e1
        have q2 := Option.some.inj e2
        have q3 := Option.some.inj e3
        have q4 := Option.some.inj e4
        rw [hD]
        simp only [List.map_cons, List.map_nil, q0, q1, q2, q3, q4]
        rfl
    obtain ⟨g, hg⟩ : ∃ g : Nat → Cmd, ∀ i, i < len → (∀ k u, (cmdL (g i))[k]? = some u → W.cell? (a.add (i * 5 + k)) = some u) ∧ D i = cmdD (g i) ∧ (-9223372036854775808 ≤ (g i).pos ∧ (g i).pos ≤ 9223372036854775807) ∧ (-9223372036854775808 ≤ (g i).kind ∧ (g i).kind ≤ 9223372036854775807) :=
      ⟨fun i => if hl : i < len then (each i hl).choose else Cmd.zero, fun i hl => by simp only [dif_pos hl]; exact (each i hl).choose_spec⟩
    have hpart : ∀ i, i < len → Rows.uptoBulk (D i) ≤ 1048576 := fun i hil => by
      have h1 : Rows.uptoBulk (D i) ≤ Rows.uptoBulkAll ((List.range len).map D) := bulk_part (List.mem_map.2 ⟨i, List.mem_range.2 hil, rfl⟩)
      simp only [Rows.uptoBulk] at hbulk
      omega
    have hlen : ∀ (L : List (DataW H)), L.length ≤ Rows.uptoBulkAll L := by
      intro L
      induction L with
      | nil => simp
      | cons x r ih =>
        simp only [Rows.uptoBulkAll, List.length_cons]
        have : 1 ≤ Rows.uptoBulk x := by
          cases x with
          | lit l => cases l <;> simp [Rows.uptoBulk]
          | _ => simp [Rows.uptoBulk]
        omega
    refine ⟨(List.range len).map g, ⟨some a, cap, by simp, fun j x hx => ?_⟩, ?_, fun c hc => ?_⟩
    · have hjl : j < len := by have := (List.getElem?_eq_some_iff.1 hx).1; simpa using this
      have hgx : g j = x := by
        rw [List.getElem?_map, List.getElem?_range hjl] at hx
        exact Option.some.inj hx
      have h1 := (hg j hjl).1
      rw [hgx] at h1
      obtain ⟨b, o, sp⟩ := a
      have hsp : sp = none := spot_none ((hg 0 (by omega)).1 0 _ rfl)
      subst hsp
      refine ⟨b, o, rfl, fun i c hc => ?_⟩
      have h2 := h1 i c hc
      rw [addr_add] at h2
      rw [Nat.add_assoc]; exact h2
    · have h1 := hlen ((List.range len).map D)
      simp only [Rows.uptoBulk] at hbulk
      simp only [List.length_map, List.length_range] at h1 ⊢
      omega
    · obtain ⟨i, hi2, rfl⟩ := List.mem_map.1 hc
      have hil := List.mem_range.1 hi2
      obtain ⟨_, hD, hp, hkd⟩ := hg i hil
      have h1 := hpart i hil
      rw [hD] at h1
      have h3 : Rows.uptoBulk (cmdD (H := H) (g i)) = 1 + ((g i).path.length + 1 + ((g i).dest.length + 1 + (1 + ((g i).data.length + 1)))) + 1 := by simp [cmdD, Rows.uptoBulk, Rows.uptoBulkAll]
      exact ⟨⟨by omega, by omega, by omega, hp⟩, hkd⟩
end
end
end Go.Proofs.YthmpblccplphfaaGreatDoor
