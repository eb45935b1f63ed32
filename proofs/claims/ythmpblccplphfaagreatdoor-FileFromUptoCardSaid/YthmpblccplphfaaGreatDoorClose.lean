/-
  The end of a law's proof: a call that answers true and has turned nothing old meets the row's post. No program here.
-/
import Derived.Test.YthmpblccplphfaaGreatDoorStr
import Derived.ProofKit
import Derived.SizedLaws
import Derived.SliceStrings
namespace Go.Proofs.YthmpblccplphfaaGreatDoor
open Go.ChangeShapes Go.WideShapes Go.ChangeAt Go.RowKit
section
variable {H : Type} {enc : TypeId × Value → H} {P : Program}
theorem trodAll_keep (hl : laidOutB P = true) {W W' : World} (hb : Below W.heap.size W W') : ∀ (ts : List TypeId) (vs : List Value) (ds : List (DataW H)) (ps : List MemPlace),
    (ts.all fun t => P.readableRec t && decide (t < P.types.size)) = true → DataW.TrodAll enc P W 0 (fun _ => true) true ts vs ds ps → (∀ x ∈ ps, x.block < W.heap.size) →
    DataW.TrodAll enc P W' 0 (fun b => decide (b < W.heap.size)) true ts vs ds ps
  | [], [], [], _, _, h, _ => h
  | t :: ts, v :: vs, d :: ds, ps, hr, h, hlt => by
    obtain ⟨p, q, h1, h2, rfl⟩ := h
    simp only [List.all_cons, Bool.and_eq_true, decide_eq_true_eq] at hr
    exact ⟨p, q, Below.trod hl hr.1.1 hr.1.2 h1 hb (fun x hx => hlt x (by simp [hx])), trodAll_keep hl hb ts vs ds q hr.2 h2 (fun x hx => hlt x (by simp [hx])), rfl⟩
  | [], _ :: _, _, _, _, h, _ => h.elim
  | [], [], _ :: _, _, _, h, _ => h.elim
  | _ :: _, [], _, _, _, h, _ => h.elim
  | _ :: _, _ :: _, [], _, _, h, _ => h.elim
theorem law_close {fn : Func} {s : ChangeSpec} {W W' : World} {args : Array Value} {ds gs : List (DataW H)} {before : List MemPlace} {tb : TypeId}
    (hl : laidOutB P = true) (hr : (fn.params.toList.all fun t => P.readableRec t && decide (t < P.types.size)) = true) (hv : s.vars = []) (hrt : fn.resultTypes = #[tb]) (hb : P.underlying tb = some .bool)
    (hfn : s.fn H (ds ++ gs) = { results := [.lit (.bool true)], args := ds }) (hW : DataW.Whole enc P fn.params.toList s.vars false W args.toList ds gs before) (hk : Keep W W') :
    s.post enc P fn false true false false W args (.bool true) W' := by
  have hlt : ∀ x ∈ before, x.block < W.heap.size := fun x hx => by simpa using hW.lt x hx
  have hW' := hW
  obtain ⟨p, q, hA, hV, rfl, _, _⟩ := hW
  rw [hv] at hV
  obtain ⟨_, rfl⟩ := trodVars_none hV
  refine ⟨ds, gs, p ++ [], [], p, [], hW', ?_, ?_, ?_, hk.below.frame _, fun h => by cases h⟩
  · rw [hfn, hrt]; exact trodAll_mk1 (shut_bool hb _)
  · rw [hfn]; exact trodAll_keep hl hk.below _ _ _ _ hr hA (fun x hx => hlt x (by simp [hx]))
  · rw [hfn, hv]; rfl
theorem weights_all {t : TypeId} {d : DataW H} : ∀ {l : List (DataW H)}, d ∈ l → ∀ n ∈ d.weights P t, n ∈ DataW.weightsAll P t l
  | x :: l, h, n, hn => by
    simp only [DataW.weightsAll, List.mem_append]
    rcases List.mem_cons.1 h with rfl | h
    · exact Or.inl hn
    · exact Or.inr (weights_all h n hn)
/-- A slice of strings that came in: nil or not, its strings and their lengths. -/
def StrsAt (w : World) (a : Option Addr) (n : Nat) (f : Nat → List UInt8) : Prop :=
  n ≤ 140737488351232 ∧ ∀ j, j < n → (f j).length ≤ 140737488351232 ∧ ∃ b o, a = some ⟨b, o, none⟩ ∧ w.cell? ⟨b, o + j, none⟩ = some (.string ⟨(f j).toArray⟩)
theorem open_strs {W : World} {base : Nat} {ts te : TypeId} {v : Value} {d : DataW H} {p : List MemPlace} {tys : List TypeId} {dds : List (DataW H)} (hts : P.underlying ts = some (.slice te)) (hte : P.underlying te = some .string) (hc : P.cellsOf te = 1) (hb : P.bytesOf te = 16)
    (hok : Value.okWide P W .any base ts v) (h : DataW.Trod enc P W 0 (fun _ => true) true ts v d p) (hsz : (DataW.weightsEach P tys dds).all (· ≤ reachBytes) = true) {j : Nat} (ht : tys[j]? = some ts) (hd : dds[j]? = some d) :
    ∃ a n cap f, v = .slice a n cap ∧ StrsAt W a n f := by
  obtain ⟨a0, len, cap, rfl⟩ := okWide_slice hts hok
  obtain ⟨fuel, hf⟩ := h
  rcases open_strings hts hte hc hf with ⟨hcs, _⟩ | ⟨a, len', cap', ss, hcs, _, hl, hm, hz, hx, hcell, _⟩
  · simp [Value.cells] at hcs
    obtain ⟨rfl, rfl, rfl⟩ := hcs
    exact ⟨none, 0, 0, fun _ => [], rfl, by omega, fun j hj => by omega⟩
  · simp [Value.cells] at hcs
    obtain ⟨rfl, rfl, rfl⟩ := hcs
    have hx1 := congrArg Prod.fst hx
    simp only at hx1
    subst hx1
    have hs1 := sized_slice hsz ht hd hts
    rw [hb] at hs1
    simp only [if_true] at hz
    refine ⟨some a, len, cap, fun i => (ss.getD i ByteArray.empty).data.toList, rfl, ?_, fun i hi => ⟨?_, ?_⟩⟩
    · simp only [strs, List.length_map, List.length_take, List.length_drop, reachBytes] at hs1; omega
    · have hi2 : i < ss.length := by omega
      have hmem : (DataW.lit (.string (ss.getD i ByteArray.empty).data.toList) : DataW H) ∈ strs (H := H) (ss.take len) := by
        simp only [strs, List.mem_map]
        refine ⟨ss[i], ?_, ?_⟩
        · rw [List.mem_take_iff_getElem]; exact ⟨i, by omega, rfl⟩
        · simp [List.getD, hi2]
      have hw0 : (ss.getD i ByteArray.empty).data.toList.length ∈ (DataW.slice (strs (H := H) (ss.take len)) (strs (ss.drop len))).weights P ts := by
        simp only [DataW.weights, hts, List.mem_cons, List.mem_append]
        exact Or.inr (Or.inl (weights_all hmem _ (List.mem_singleton.2 rfl)))
      have hw := DataW.weights_mem_each ht hd _ hw0
      have := List.all_eq_true.1 hsz _ hw
      simpa [reachBytes] using this
    · have hi2 : i < ss.length := by omega
      have hcl := hcell i hi2
      obtain ⟨b, o, sp⟩ := a
      have hsp : sp = none := by
        rcases sp with _ | q
        · rfl
        · exfalso
          have h0 := hcell 0 (by omega)
          simp [Addr.add, World.cell?] at h0
          cases hb : W.heap[b]? with
          | none => simp [hb] at h0
          | some ob => cases ob <;> simp [hb] at h0
      subst hsp
      rw [addr_add] at hcl
      exact ⟨b, o, rfl, hcl⟩
end
end Go.Proofs.YthmpblccplphfaaGreatDoor
