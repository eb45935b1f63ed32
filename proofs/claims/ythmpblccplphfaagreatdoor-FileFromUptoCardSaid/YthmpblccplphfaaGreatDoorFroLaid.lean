/-
  A slice of nodes that came in, opened; the rows' list holds errors.errorType.
-/
import Derived.Test.YthmpblccplphfaaGreatDoorFilLaid
import Derived.Test.YthmpblccplphfaaGreatDoorFroRead
namespace Go.Proofs.YthmpblccplphfaaGreatDoor
section
open Go.ChangeShapes Go.WideShapes Go.Deep Go.RowKit
section
variable {H : Type} {enc : TypeId × Value → H}
def nodeD (x : Nt) : DataW H := .agg [.lit (.int .i64 x.num), .lit (.bool x.dir), .lit (.int .i64 x.links), .lit (.string x.data)]
set_option maxRecDepth 100000 in
theorem open_nodes {W : World} {base : Nat} {v : Value} {d : DataW H} {p : List MemPlace} {ds : List (DataW H)} (hok : Value.okWide Tryz.prog W .any base 22 v) (h : DataW.Trod enc Tryz.prog W 0 (fun _ => true) true 22 v d p)
    (hk : Rows.uptoSmall H ds = true) {j : Nat} (hj : ds[j]? = some d) :
    ∃ l : List Nt, RowF nodeC 4 W v l ∧ l.length ≤ 1048576 ∧ ∀ c ∈ l, c.data.length ≤ 1048576 ∧ (-9223372036854775808 ≤ c.num ∧ c.num ≤ 9223372036854775807) ∧ (-9223372036854775808 ≤ c.links ∧ c.links ≤ 9223372036854775807) := by
  obtain ⟨a0, len, cap, rfl⟩ := okWide_slice Tryz.underlying22 hok
  obtain ⟨fuel, hf⟩ := h
  have hbulk := bulk_part (List.mem_of_getElem? hj)
  have hb2 : Rows.uptoBulkAll ds ≤ 1048576 := by simpa [Rows.uptoSmall] using hk
  rcases open_slice_fields Tryz.underlying22 Tryz.underlying41 (by kernel_rfl) (by kernel_rfl) hf with ⟨hcs, _⟩ | ⟨a, len', cap', m, D, Pl, hcs, _, hl, hm, hmm, hx, hi⟩
  · simp [Value.cells] at hcs
    obtain ⟨rfl, rfl, rfl⟩ := hcs
    exact ⟨[], ⟨none, 0, rfl, fun j x h => by simp at h⟩, by simp, fun c hc => by cases hc⟩
  · simp [Value.cells] at hcs
    obtain ⟨rfl, rfl, rfl⟩ := hcs
    have hx1 := congrArg Prod.fst hx
    simp only at hx1
    subst hx1
    simp only [if_true] at hmm
    have each : ∀ i, i < len → ∃ c : Nt, (∀ k u, (nodeC c)[k]? = some u → W.cell? (a.add (i * 4 + k)) = some u) ∧ D i = nodeD c ∧ (-9223372036854775808 ≤ c.num ∧ c.num ≤ 9223372036854775807) ∧ (-9223372036854775808 ≤ c.links ∧ c.links ≤ 9223372036854775807) := by
      intro i hil
      obtain ⟨ys, n, hD, _, hyl, hcell⟩ := hi i (by omega)
      obtain ⟨z0, z1, z2, z3, rfl⟩ : ∃ z0 z1 z2 z3, ys = [z0, z1, z2, z3] := by
        have hs : ys.length = 4 := hyl
        match ys, hs with
        | [a, b, c, d], _ => exact ⟨a, b, c, d, rfl⟩
      obtain ⟨v0, y0, c0, e0, t0⟩ := hcell 0 _ rfl
      obtain ⟨v1, y1, c1, e1, t1⟩ := hcell 1 _ rfl
      obtain ⟨v2, y2, c2, e2, t2⟩ := hcell 2 _ rfl
      obtain ⟨v3, y3, c3, e3, t3⟩ := hcell 3 _ rfl
      obtain ⟨n0, f0, rfl, w0⟩ := DataW.trod_int Tryz.underlying3 t0
      obtain ⟨b1, f1, rfl⟩ := DataW.trod_bool Tryz.underlying4 t1
      obtain ⟨n2, f2, rfl, w2⟩ := DataW.trod_int Tryz.underlying3 t2
      obtain ⟨s3, f3, rfl, _⟩ := DataW.trod_string Tryz.underlying9 t3
      injection f0 with f0; injection f1 with f1; injection f2 with f2; injection f3 with f3
      subst f0 f1 f2 f3
      refine ⟨⟨n0, b1, n2, s3.data.toList⟩, fun k u hku => ?_, ?_, i64_of_wf w0, i64_of_wf w2⟩
      · match k, hku with
        | 0, h => cases h; exact c0
        | 1, h => cases h; exact c1
        | 2, h => cases h; exact c2
        | 3, h => cases h; exact c3
        | k + 4, h => simp [nodeC] at h
      · have q0 := Option.some.inj e0
        have q1 := Option.some.inj e1
        have q2 := Option.some.inj e2
        have q3 := Option.some.inj e3
        rw [hD]
        simp only [List.map_cons, List.map_nil, q0, q1, q2, q3]
        rfl
    obtain ⟨g, hg⟩ : ∃ g : Nat → Nt, ∀ i, i < len → (∀ k u, (nodeC (g i))[k]? = some u → W.cell? (a.add (i * 4 + k)) = some u) ∧ D i = nodeD (g i) ∧ (-9223372036854775808 ≤ (g i).num ∧ (g i).num ≤ 9223372036854775807) ∧ (-9223372036854775808 ≤ (g i).links ∧ (g i).links ≤ 9223372036854775807) :=
      ⟨fun i => if hl : i < len then (each i hl).choose else ⟨0, false, 0, []⟩, fun i hl => by simp only [dif_pos hl]; exact (each i hl).choose_spec⟩
    have hpart : ∀ i, i < len → Rows.uptoBulk (D i) ≤ 1048576 := fun i hil => by
      have h1 : Rows.uptoBulk (D i) ≤ Rows.uptoBulkAll ((List.range len).map D) := bulk_part (List.mem_map.2 ⟨i, List.mem_range.2 hil, rfl⟩)
      simp only [Rows.uptoBulk] at hbulk
      omega
    have hlen : ∀ (L : List (DataW H)), L.length ≤ Rows.uptoBulkAll L := by
      intro L
      induction L with
      | nil => simp
      | cons x r ih =>
        simp only [Rows.uptoBulkAll, List.length_cons]
        have : 1 ≤ Rows.uptoBulk x := by
          cases x with
          | lit l => cases l <;> simp [Rows.uptoBulk]
          | _ => simp [Rows.uptoBulk]
        omega
    refine ⟨(List.range len).map g, ⟨some a, cap, by simp, fun j x hx => ?_⟩, ?_, fun c hc => ?_⟩
    · have hjl : j < len := by have := (List.getElem?_eq_some_iff.1 hx).1; simpa using this
      have hgx : g j = x := by
        rw [List.getElem?_map, List.getElem?_range hjl] at hx
        exact Option.some.inj hx
      have h1 := (hg j hjl).1
      rw [hgx] at h1
      obtain ⟨b, o, sp⟩ := a
      have hsp : sp = none := spot_none ((hg 0 (by omega)).1 0 _ rfl)
      subst hsp
      refine ⟨b, o, rfl, fun i c hc => ?_⟩
      have h2 := h1 i c hc
      rw [addr_add] at h2
      rw [Nat.add_assoc]; exact h2
    · have h1 := hlen ((List.range len).map D)
      simp only [Rows.uptoBulk] at hbulk
      simp only [List.length_map, List.length_range] at h1 ⊢
      omega
    · obtain ⟨i, hi2, rfl⟩ := List.mem_map.1 hc
      have hil := List.mem_range.1 hi2
      obtain ⟨_, h2, h3, h4⟩ := hg i hil
      have h5 := hpart i hil
      rw [h2] at h5
      have h6 : Rows.uptoBulk (nodeD (H := H) (g i)) = 1 + (1 + (1 + ((g i).data.length + 1))) + 1 := by simp [nodeD, Rows.uptoBulk, Rows.uptoBulkAll]
      exact ⟨by omega, h3, h4⟩
end
end
section
open Go.RowKit
theorem errT_cut : (Tryz.prog.cutTypes.find? (·.1 == "internal/reflectlite.rtype")).map (·.2) = some 267 := by kernel_rfl
theorem errT_row : ((List.range 316).filter fun t => Tryz.prog.rowNamed t [101, 114, 114, 111, 114]) = [152] := by kernel_rfl
theorem errT_size : Tryz.prog.types.size = 316 := by kernel_rfl
theorem errT_name : Tryz.prog.globalNamed "errors.errorType" = some 3 := by kernel_rfl
theorem errT_of_laid {W : World} {l : List (String × DataW Unit)} (h : laidMetH Tryz.prog l W) (e : (l.filter fun x => x.2.handleName?.isSome) = [("errors.errorType", Rows.laid_errors_errorType)]) : ErrT W := by
  unfold laidMetH at h
  rw [e] at h
  obtain ⟨name, u, ty, e1, e2, e3, e4, e5⟩ := h.2 _ (List.mem_singleton.2 rfl)
  have en : name = [101, 114, 114, 111, 114] := (Option.some.inj e1).symm
  subst en
  obtain rfl := Option.some.inj (errT_cut.symm.trans e2)
  have hm : ty ∈ (List.range 316).filter fun t => Tryz.prog.rowNamed t [101, 114, 114, 111, 114] := List.mem_filter.2 ⟨List.mem_range.2 (by rw [← errT_size]; exact e3), e4⟩
  rw [errT_row] at hm
  obtain rfl := List.mem_singleton.1 hm
  have hh : typeHandle Tryz.prog 152 = .pointer (some ⟨9, 152, none⟩) := by kernel_rfl
  rw [hh] at e5
  unfold ErrT
  simpa using World.var?_cell errT_name e5 0
end
end Go.Proofs.YthmpblccplphfaaGreatDoor
