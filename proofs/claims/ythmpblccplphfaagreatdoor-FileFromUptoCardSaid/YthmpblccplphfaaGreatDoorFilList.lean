/-
  slices.Sorted(maps.Keys(m)) at this dump's maps: names, numbers.
-/
import Derived.Test.YthmpblccplphfaaGreatDoorFilFind
import Derived.Test.YthmpblccplphfaaGreatDoorShelfMaps
namespace Go.Proofs.YthmpblccplphfaaGreatDoor
open Go.RowKit Go.Maps Go.Sort Go.Shelf
theorem sortsS (m : Nat) : AnyZ.SortsIn Tryz.prog Tryz.sortedS_ren Fence.wide m :=
  ⟨fun blk off cap ss W hH hblk hsz => callsIn_wide.2 (AnyM.slices_Sort_string Tryz.sortS blk off cap ss W hH hblk hsz),
   fun p cap W => callsIn_wide.2 (AnyM.slices_Sort_string_none Tryz.sortS p cap W)⟩
theorem sortsI (m : Nat) : AnyZI.SortsIn Tryz.prog Tryz.sortedI_ren Fence.wide m :=
  ⟨fun blk off cap ss W hH hblk hsz => callsIn_wide.2 (AnyM.slices_Sort_int Tryz.sortI blk off cap ss W hH hblk hsz),
   fun p cap W => callsIn_wide.2 (AnyM.slices_Sort_int_none Tryz.sortI p cap W)⟩
theorem before_lt : ∀ (a b : List UInt8), bytesBefore a b = true → a < b
  | [], [], h => by cases h
  | [], _ :: _, _ => List.nil_lt_cons _ _
  | _ :: _, [], h => by cases h
  | x :: r, y :: s, h => by
    simp only [bytesBefore, Bool.or_eq_true, decide_eq_true_eq, Bool.and_eq_true, beq_iff_eq] at h
    rw [List.cons_lt_cons_iff]
    rcases h with h | ⟨h1, h2⟩
    · exact .inl h
    · exact .inr ⟨h1, before_lt r s h2⟩
theorem keys_sorted {l : Nm} (hs : SortedN l) {ss : List (List UInt8)} (hp : ss.Perm (l.map (·.1))) : ss.mergeSort (fun x y => decide (x ≤ y)) = l.map (·.1) := by
  rw [mergeSort_of_perm hp]
  refine List.mergeSort_of_pairwise ?_
  rw [List.pairwise_map]
  exact hs.imp fun h => by simpa [leB] using List.le_of_lt (before_lt _ _ h)
theorem nums_sorted {l : List Int} (hs : l.Pairwise (· < ·)) {ss : List Int} (hp : ss.Perm l) : ss.mergeSort (fun x y => decide (x ≤ y)) = l := by
  rw [mergeSort_of_perm_i hp]
  refine List.mergeSort_of_pairwise ?_
  exact hs.imp fun h => by simp [leI]; omega
theorem keysS_any (mb : Option Nat) (W : World) : Calls Tryz.prog 85 #[.map mb] W fun e w' => e = .returned (.func (.func 110) #[] #[.pointer (some ⟨W.heap.size, 0, none⟩)]) ∧ w' = W.alloc (.cells #[.map mb] 68) :=
  callsIn_wide.1 (AnyZ.keys_in Tryz.keysS Fence.wide 5 trivial rfl mb W)
theorem keysI_any (mb : Option Nat) (W : World) : Calls Tryz.prog 34 #[.map mb] W fun e w' => e = .returned (.func (.func 65) #[] #[.pointer (some ⟨W.heap.size, 0, none⟩)]) ∧ w' = W.alloc (.cells #[.map mb] 62) :=
  callsIn_wide.1 (AnyZI.keys_in Tryz.keysI Fence.wide 5 trivial rfl mb W)
theorem sortedS_any (b : Nat) (l : Nm) (w : World) (h : MapS w b l) (hs : SortedN l) (hl : l.length ≤ 1000000) :
    Calls Tryz.prog 84 #[.func (.func 110) #[] #[.pointer (some ⟨w.heap.size, 0, none⟩)]] (w.alloc (.cells #[.map (some b)] 68)) fun e w' => ∃ v, e = .returned v ∧ OwnStrs w' w.heap.size v (l.map (·.1)) ∧ Keep w w' := by
  have hbl := h.lt
  have hseq : SeqGives Fence.wide 2 Tryz.prog 110 #[.pointer (some ⟨w.heap.size, 0, none⟩)] encStr (fun ss => ss.Perm (strKeys (toN l))) (Maps.size (toN l)) (w.alloc (.cells #[.map (some b)] 68)) :=
    AnyZ.keys_gives (ρ := Tryz.keysS_ren) { Tryz.keysS with } Fence.wide _ trivial rfl (by omega) w.heap.size b l.length (toN l) _ (by simp) (by simp) (World.ownsMap.alloc h _)
  have cS := AnyZ.sorted_in Tryz.sortedS Fence.wide 5 trivial trivial trivial trivial rfl (by omega) (sortsS _) (enters_of Tryz.func109 (by kernel_rfl) rfl) 110 #[.pointer (some ⟨w.heap.size, 0, none⟩)] trivial (enters_of Tryz.func110 (by kernel_rfl) rfl) _ _ (by rw [size_toG]; unfold maxLen; omega) (by rw [size_toG]; omega) _ hseq
  refine (callsIn_wide.1 cS).mono ?_
  rintro e w' ⟨v, ss, rfl, hS, hrow, hnil, hb⟩
  have hk : strKeys (toN l) = l.map (·.1) := by
    show (l.map fun p => ((Lit.string p.1, litI p.2) : Lit × DataW Value)).map (fun p => strOf p.1) = _
    rw [List.map_map]; rfl
  rw [hk] at hS
  rw [keys_sorted hs hS] at hrow
  refine ⟨v, rfl, ?_, unalloc (Mod.ofBelow hb)⟩
  have hlen : ss.length = (l.map (·.1)).length := hS.length_eq
  unfold OwnStrs
  rw [← hlen, scells_srow]
  exact own_baseO hrow (by simp)
theorem sortedI_any (b : Nat) (l : List (Int × Nat)) (w : World) (h : MapP w b l) (hs : (l.map (·.1)).Pairwise (· < ·)) (hl : l.length ≤ 1000000) :
    Calls Tryz.prog 33 #[.func (.func 65) #[] #[.pointer (some ⟨w.heap.size, 0, none⟩)]] (w.alloc (.cells #[.map (some b)] 62)) fun e w' => ∃ v, e = .returned v ∧ OwnIntsO w' w.heap.size v (l.map (·.1)) ∧ Keep w w' := by
  have hbl := h.lt
  have hseq : SeqGives Fence.wide 2 Tryz.prog 65 #[.pointer (some ⟨w.heap.size, 0, none⟩)] encZ (fun ss => ss.Perm (intKeys (toO l))) (Maps.size (toO l)) (w.alloc (.cells #[.map (some b)] 62)) :=
    AnyZI.keys_gives (ρ := Tryz.keysI_ren) { Tryz.keysI with } Fence.wide _ trivial rfl (by omega) w.heap.size b l.length (toO l) _ (by simp) (by simp) (World.ownsMap.alloc h _)
  have cS := AnyZI.sorted_in Tryz.sortedI Fence.wide 5 trivial trivial trivial trivial rfl (by omega) (sortsI _) (enters_of Tryz.func64 (by kernel_rfl) rfl) 65 #[.pointer (some ⟨w.heap.size, 0, none⟩)] trivial (enters_of Tryz.func65 (by kernel_rfl) rfl) _ _ (by rw [size_toG]; unfold maxLen; omega) (by rw [size_toG]; omega) _ hseq
  refine (callsIn_wide.1 cS).mono ?_
  rintro e w' ⟨v, ss, rfl, hS, hrow, hnil, hb⟩
  have hk : intKeys (toO l) = l.map (·.1) := by
    show (l.map fun p => ((Lit.int .i64 p.1, litP p.2) : Lit × DataW Value)).map (fun p => Go.intOf p.1) = _
    rw [List.map_map]; rfl
  rw [hk] at hS
  rw [nums_sorted hs hS] at hrow
  refine ⟨v, rfl, ?_, unalloc (Mod.ofBelow hb)⟩
  have hlen : ss.length = (l.map (·.1)).length := hS.length_eq
  unfold OwnIntsO
  rw [← hlen]
  exact own_baseO hrow (by simp)
end Go.Proofs.YthmpblccplphfaaGreatDoor
