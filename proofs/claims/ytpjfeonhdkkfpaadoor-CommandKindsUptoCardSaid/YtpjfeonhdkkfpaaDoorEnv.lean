/-
  What the walks ask of a world: the library's tables and sentinels, as the row lists them; and the library's contracts in lists.
-/
import Derived.Test.YtpjfeonhdkkfpaaDoorRows
import Derived.Test.YtpjfeonhdkkfpaaDoorShelf
import Derived.Test.YtpjfeonhdkkfpaaDoorExt
import Derived.Test.YtpjfeonhdkkfpaaDoorWords
import Derived.WalkSmall
import Derived.Stop.LaidErr
import Derived.Lib.LaidTab
import Derived.LaidSub
namespace Go.Proofs.YtpjfeonhdkkfpaaDoor
open Go.RowKit
structure Env (w : World) : Prop where
  shaped : w.ShapedOpen Tryd.prog
  pow : Lib.TabIs Tryd.prog w "internal/strconv.uint64pow10" .u64 Lib.pow10Tab
  syn : ∃ tp p, w.var? Tryd.prog "strconv.ErrSyntax" = some #[.iface tp p]
  rng : ∃ tp p, w.var? Tryd.prog "strconv.ErrRange" = some #[.iface tp p]
  ltP : 5 < w.heap.size
  ltS : 1 < w.heap.size
  ltR : 2 < w.heap.size
theorem Env.keep {w w' : World} (h : Env w) (k : Keep w w') : Env w' := by
  refine ⟨h.shaped.keptBut (may := fun _ => False) (k.below.frame _) (fun _ f => f.elim), ?_, ?_, ?_, Nat.lt_of_lt_of_le h.ltP k.size, Nat.lt_of_lt_of_le h.ltS k.size, Nat.lt_of_lt_of_le h.ltR k.size⟩
  · exact var?_below k.below (show Tryd.prog.globalNamed _ = some 5 by kernel_rfl) h.ltP h.pow
  · obtain ⟨tp, p, e⟩ := h.syn
    exact ⟨tp, p, var?_below k.below (show Tryd.prog.globalNamed _ = some 1 by kernel_rfl) h.ltS e⟩
  · obtain ⟨tp, p, e⟩ := h.rng
    exact ⟨tp, p, var?_below k.below (show Tryd.prog.globalNamed _ = some 2 by kernel_rfl) h.ltR e⟩
theorem row_err : ∀ u, Tryd.prog.typeName? 3 u = some "*errors.errorString" → u = 121 := fun u h => by
  have star : "*" ++ "errors.errorString" = "*errors.errorString" := by decide
  exact typeName_ptr_named (nm := "errors.errorString") (by rw [star]; kernel_rfl) (by kernel_rfl) (by decide) u (by rw [star]; exact h)
theorem pow_of_laid {w : World} {l : List (String × DataW Unit)} (h : laidMetH Tryd.prog l w) (e : l.filter (fun x => x.1 == "internal/strconv.uint64pow10") = [("internal/strconv.uint64pow10", Rows.laid_internal_strconv_uint64pow10)]) : Lib.TabIs Tryd.prog w "internal/strconv.uint64pow10" .u64 Lib.pow10Tab := by
  have h1 := h.filter (fun x => x.1 == "internal/strconv.uint64pow10")
  rw [e] at h1
  exact Lib.tabIs_of_head (rest := []) (show Tryd.prog.globalNamed _ = some 5 by kernel_rfl) rfl Tryd.underlying117 Tryd.underlying98 (by kernel_rfl) (by kernel_rfl) h1
theorem syn_of_laid {w : World} {l : List (String × DataW Unit)} (h : laidMetH Tryd.prog l w) (e : l.filter (fun x => x.1 == "strconv.ErrSyntax") = [("strconv.ErrSyntax", Rows.laid_strconv_ErrSyntax)]) : ∃ tp p, w.var? Tryd.prog "strconv.ErrSyntax" = some #[.iface tp p] := by
  have h1 := h.filter (fun x => x.1 == "strconv.ErrSyntax")
  rw [e] at h1
  obtain ⟨a, _, hv, _⟩ := laid_sentinel (r := []) h1 (show Tryd.prog.globalNamed _ = some 1 by kernel_rfl) rfl Tryd.underlying56 row_err Tryd.underlying121 Tryd.underlying123 rfl rfl Tryd.underlying9 (by kernel_rfl) (by kernel_rfl)
  exact ⟨_, _, hv⟩
theorem rng_of_laid {w : World} {l : List (String × DataW Unit)} (h : laidMetH Tryd.prog l w) (e : l.filter (fun x => x.1 == "strconv.ErrRange") = [("strconv.ErrRange", Rows.laid_strconv_ErrRange)]) : ∃ tp p, w.var? Tryd.prog "strconv.ErrRange" = some #[.iface tp p] := by
  have h1 := h.filter (fun x => x.1 == "strconv.ErrRange")
  rw [e] at h1
  obtain ⟨a, _, hv, _⟩ := laid_sentinel (r := []) h1 (show Tryd.prog.globalNamed _ = some 2 by kernel_rfl) rfl Tryd.underlying56 row_err Tryd.underlying121 Tryd.underlying123 rfl rfl Tryd.underlying9 (by kernel_rfl) (by kernel_rfl)
  exact ⟨_, _, hv⟩
theorem env_of {w : World} (hs : w.ShapedOpen Tryd.prog) (h1 : Lib.TabIs Tryd.prog w "internal/strconv.uint64pow10" .u64 Lib.pow10Tab) (h2 : ∃ tp p, w.var? Tryd.prog "strconv.ErrSyntax" = some #[.iface tp p]) (h3 : ∃ tp p, w.var? Tryd.prog "strconv.ErrRange" = some #[.iface tp p]) : Env w := by
  refine ⟨hs, h1, h2, h3, ?_, ?_, ?_⟩
  · exact lt_of_cell (Lib.TabIs.cell h1 (show Tryd.prog.globalNamed _ = some 5 by kernel_rfl) 0 (by decide))
  · obtain ⟨tp, p, e⟩ := h2
    have := World.var?_cell (show Tryd.prog.globalNamed _ = some 1 by kernel_rfl) e 0
    exact lt_of_cell (a := ⟨1, 0, none⟩) this
  · obtain ⟨tp, p, e⟩ := h3
    have := World.var?_cell (show Tryd.prog.globalNamed _ = some 2 by kernel_rfl) e 0
    exact lt_of_cell (a := ⟨2, 0, none⟩) this
end Go.Proofs.YtpjfeonhdkkfpaaDoor
