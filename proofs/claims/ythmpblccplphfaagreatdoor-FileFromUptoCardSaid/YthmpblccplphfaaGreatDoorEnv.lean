/-
  What the walks ask of a world: the library's tables and sentinels, as the row lists them; and the library's contracts in lists.
-/
import Derived.Test.YthmpblccplphfaaGreatDoorRows
import Derived.Test.YthmpblccplphfaaGreatDoorShelf
import Derived.Test.YthmpblccplphfaaGreatDoorExt
import Derived.Test.YthmpblccplphfaaGreatDoorWords
import Derived.WalkSmall
import Derived.Stop.LaidErr
import Derived.Lib.LaidTab
import Derived.LaidSub
namespace Go.Proofs.YthmpblccplphfaaGreatDoor
open Go.RowKit
structure Env (w : World) : Prop where
  shaped : w.ShapedOpen Tryz.prog
  pow : Lib.TabIs Tryz.prog w "internal/strconv.uint64pow10" .u64 Lib.pow10Tab
  syn : ∃ tp p, w.var? Tryz.prog "strconv.ErrSyntax" = some #[.iface tp p]
  rng : ∃ tp p, w.var? Tryz.prog "strconv.ErrRange" = some #[.iface tp p]
  ltP : 4 < w.heap.size
  ltS : 0 < w.heap.size
  ltR : 1 < w.heap.size
theorem Env.keep {w w' : World} (h : Env w) (k : Keep w w') : Env w' := by
  refine ⟨h.shaped.keptBut (may := fun _ => False) (k.below.frame _) (fun _ f => f.elim), ?_, ?_, ?_, Nat.lt_of_lt_of_le h.ltP k.size, Nat.lt_of_lt_of_le h.ltS k.size, Nat.lt_of_lt_of_le h.ltR k.size⟩
  · exact var?_below k.below (show Tryz.prog.globalNamed _ = some 4 by kernel_rfl) h.ltP h.pow
  · obtain ⟨tp, p, e⟩ := h.syn
    exact ⟨tp, p, var?_below k.below (show Tryz.prog.globalNamed _ = some 0 by kernel_rfl) h.ltS e⟩
  · obtain ⟨tp, p, e⟩ := h.rng
    exact ⟨tp, p, var?_below k.below (show Tryz.prog.globalNamed _ = some 1 by kernel_rfl) h.ltR e⟩
theorem row_err : ∀ u, Tryz.prog.typeName? 3 u = some "*errors.errorString" → u = 262 := fun u h => by
  have star : "*" ++ "errors.errorString" = "*errors.errorString" := by decide
  exact typeName_ptr_named (nm := "errors.errorString") (by rw [star]; kernel_rfl) (by kernel_rfl) (by decide) u (by rw [star]; exact h)
theorem pow_of_laid {w : World} {l : List (String × DataW Unit)} (h : laidMetH Tryz.prog l w) (e : l.filter (fun x => x.1 == "internal/strconv.uint64pow10") = [("internal/strconv.uint64pow10", Rows.laid_internal_strconv_uint64pow10)]) : Lib.TabIs Tryz.prog w "internal/strconv.uint64pow10" .u64 Lib.pow10Tab := by
  have h1 := h.filter (fun x => x.1 == "internal/strconv.uint64pow10")
  rw [e] at h1
  exact Lib.tabIs_of_head (rest := []) (show Tryz.prog.globalNamed _ = some 4 by kernel_rfl) rfl Tryz.underlying259 Tryz.underlying181 (by kernel_rfl) (by kernel_rfl) h1
theorem syn_of_laid {w : World} {l : List (String × DataW Unit)} (h : laidMetH Tryz.prog l w) (e : l.filter (fun x => x.1 == "strconv.ErrSyntax") = [("strconv.ErrSyntax", Rows.laid_strconv_ErrSyntax)]) : ∃ tp p, w.var? Tryz.prog "strconv.ErrSyntax" = some #[.iface tp p] := by
  have h1 := h.filter (fun x => x.1 == "strconv.ErrSyntax")
  rw [e] at h1
  obtain ⟨a, _, hv, _⟩ := laid_sentinel (r := []) h1 (show Tryz.prog.globalNamed _ = some 0 by kernel_rfl) rfl Tryz.underlying152 row_err Tryz.underlying262 Tryz.underlying264 rfl rfl Tryz.underlying9 (by kernel_rfl) (by kernel_rfl)
  exact ⟨_, _, hv⟩
theorem rng_of_laid {w : World} {l : List (String × DataW Unit)} (h : laidMetH Tryz.prog l w) (e : l.filter (fun x => x.1 == "strconv.ErrRange") = [("strconv.ErrRange", Rows.laid_strconv_ErrRange)]) : ∃ tp p, w.var? Tryz.prog "strconv.ErrRange" = some #[.iface tp p] := by
  have h1 := h.filter (fun x => x.1 == "strconv.ErrRange")
  rw [e] at h1
  obtain ⟨a, _, hv, _⟩ := laid_sentinel (r := []) h1 (show Tryz.prog.globalNamed _ = some 1 by kernel_rfl) rfl Tryz.underlying152 row_err Tryz.underlying262 Tryz.underlying264 rfl rfl Tryz.underlying9 (by kernel_rfl) (by kernel_rfl)
  exact ⟨_, _, hv⟩
theorem env_of {w : World} (hs : w.ShapedOpen Tryz.prog) (h1 : Lib.TabIs Tryz.prog w "internal/strconv.uint64pow10" .u64 Lib.pow10Tab) (h2 : ∃ tp p, w.var? Tryz.prog "strconv.ErrSyntax" = some #[.iface tp p]) (h3 : ∃ tp p, w.var? Tryz.prog "strconv.ErrRange" = some #[.iface tp p]) : Env w := by
  refine ⟨hs, h1, h2, h3, ?_, ?_, ?_⟩
  · exact lt_of_cell (Lib.TabIs.cell h1 (show Tryz.prog.globalNamed _ = some 4 by kernel_rfl) 0 (by decide))
  · obtain ⟨tp, p, e⟩ := h2
    have := World.var?_cell (show Tryz.prog.globalNamed _ = some 0 by kernel_rfl) e 0
    exact lt_of_cell (a := ⟨0, 0, none⟩) this
  · obtain ⟨tp, p, e⟩ := h3
    have := World.var?_cell (show Tryz.prog.globalNamed _ = some 1 by kernel_rfl) e 0
    exact lt_of_cell (a := ⟨1, 0, none⟩) this
end Go.Proofs.YthmpblccplphfaaGreatDoor
