/-
  A tree of files in memory; the node that names name.
-/
import Derived.Test.YthmpblccplphfaaGreatDoorFilX
import Derived.Test.YthmpblccplphfaaGreatDoorRowS
import Derived.Test.YthmpblccplphfaaGreatDoorCmdPath
import Derived.Test.YthmpblccplphfaaGreatDoorCmdPrint
namespace Go.Proofs.YthmpblccplphfaaGreatDoor
open Go.RowKit
/-- what a block is to a tree -/
inductive Role
  | none
  | tree
  | of
  | node (k : Int)
  | names (k : Int)
def cellsN (n : Nd) (m : Nat) : Array Value := #[.int .i64 n.num, .bool n.dir, .int .i64 n.links, .string ⟨n.data.toArray⟩, .map (if n.dir = true then some m else none)]
abbrev MapS (w : World) (b : Nat) (l : Nm) : Prop := MapN Tryz.prog 9 3 w b l
abbrev MapP (w : World) (b : Nat) (l : List (Int × Nat)) : Prop := MapO Tryz.prog 3 w b l
def addrs (T : Tr) (A : Int → Nat) : List (Int × Nat) := T.map fun n => (n.num, A n.num)
structure TreeAt (w : World) (p : Nat) (T : Tr) (tb : Nat) (A M : Int → Nat) (role : Nat → Role) : Prop where
  tree : World.blk w p #[.map (some tb)] 64
  rtree : role p = .tree
  of : MapP w tb (addrs T A)
  rof : role tb = .of
  node : ∀ n ∈ T, World.blk w (A n.num) (cellsN n (M n.num)) 70
  rnode : ∀ n ∈ T, role (A n.num) = .node n.num
  names : ∀ n ∈ T, n.dir = true → MapS w (M n.num) n.names
  rnames : ∀ n ∈ T, n.dir = true → role (M n.num) = .names n.num
  lt : ∀ b, role b ≠ .none → b < w.heap.size
theorem TreeAt.mod {w w' : World} {p : Nat} {T : Tr} {tb : Nat} {A M : Int → Nat} {role : Nat → Role} {S : Nat → Prop} (h : TreeAt w p T tb A M role) (m : Mod S w w') (hS : ∀ b, role b ≠ .none → ¬ S b) : TreeAt w' p T tb A M role where
  tree := blk_mod m h.tree (hS p (by rw [h.rtree]; exact Role.noConfusion))
  rtree := h.rtree
  of := h.of.mod m (hS tb (by rw [h.rof]; exact Role.noConfusion))
  rof := h.rof
  node n hn := blk_mod m (h.node n hn) (hS _ (by rw [h.rnode n hn]; exact Role.noConfusion))
  rnode := h.rnode
  names n hn hd := (h.names n hn hd).mod m (hS _ (by rw [h.rnames n hn hd]; exact Role.noConfusion))
  rnames := h.rnames
  lt b hb := Nat.lt_of_lt_of_le (h.lt b hb) m.size
theorem TreeAt.keep {w w' : World} {p : Nat} {T : Tr} {tb : Nat} {A M : Int → Nat} {role : Nat → Role} (h : TreeAt w p T tb A M role) (m : Keep w w') : TreeAt w' p T tb A M role := h.mod m fun _ _ => id
theorem addrs_get (T : Tr) (A : Int → Nat) (k : Int) : getG k (addrs T A) = (T.get k).map fun n => A n.num := by
  unfold getG addrs Tr.get
  rw [List.find?_map, Option.map_map]
  rfl
theorem addrs_at {T : Tr} {A : Int → Nat} {k : Int} {n : Nd} (h : T.get k = some n) (hs : Sorted T) : getG k (addrs T A) = some (A k) := by
  rw [addrs_get, h]
  have := ((get_iff hs).1 h).2
  simp [this]
theorem zero_node (W : World) : (zeroValue 65).run Tryz.prog W = .ok (.pointer none) W := by kernel_rfl
theorem zero_int (W : World) : (zeroValue 3).run Tryz.prog W = .ok (.int .i64 0) W := by kernel_rfl
section
variable {w : World} {p tb : Nat} {T : Tr} {A M : Int → Nat} {role : Nat → Role} {d : Int → Nat} {off : Int → Int}
theorem TreeAt.look1 (h : TreeAt w p T tb A M role) (hs : Sorted T) {k : Int} {n : Nd} (hg : T.get k = some n) (hk : -9223372036854775808 ≤ k ∧ k ≤ 9223372036854775807) :
    (Instr.lookup 62 (.map (some tb)) (.int .i64 k) false).run Tryz.prog w = .ok (.pointer (some ⟨A k, 0, none⟩)) w := by
  have := MapO.look1 h.of Tryz.underlying62 Tryz.underlying3 (zero_node w) k hk
  rw [this, addrs_at hg hs]; rfl
theorem TreeAt.cell (h : TreeAt w p T tb A M role) (hs : Sorted T) {k : Int} {n : Nd} (hg : T.get k = some n) (i : Nat) : w.cell? ⟨A k, i, none⟩ = (cellsN n (M k))[i]? := by
  obtain ⟨hm, hk⟩ := (get_iff hs).1 hg
  have := h.node n hm
  rw [hk] at this
  exact blk_cell this i
theorem TreeAt.lookN (h : TreeAt w p T tb A M role) (hs : Sorted T) {k : Int} {n : Nd} (hg : T.get k = some n) (hd : n.dir = true) (s : List UInt8) (hl : s.length ≤ 140737488355328) :
    (Instr.lookup 68 (.map (some (M k))) (.string ⟨s.toArray⟩) true).run Tryz.prog w = .ok (.tuple #[.int .i64 ((getN s n.names).getD 0), .bool (getN s n.names).isSome]) w := by
  obtain ⟨hm, hk⟩ := (get_iff hs).1 hg
  have := h.names n hm hd
  rw [hk] at this
  exact MapN.look this Tryz.underlying68 Tryz.underlying9 Tryz.underlying3 (zero_int w) s hl
def findV (A : Int → Nat) : Except Int Int → Value
  | .ok k => .tuple #[.pointer (some ⟨A k, 0, none⟩), .int .i64 0]
  | .error e => .tuple #[.pointer none, .int .i64 e]
set_option maxRecDepth 100000 in
set_option maxHeartbeats 1000000 in
theorem find_any (h : TreeAt w p T tb A M role) (hw : WFo T d off) (v : Value) (l : List (List UInt8)) (hv : RowAt w v (srow l)) (hl : l.length ≤ 1000000) (hs : ∀ s ∈ l, s.length ≤ 1000000) :
    Calls Tryz.prog 76 #[.pointer (some ⟨p, 0, none⟩), v] w fun e w' => e = .returned (findV A (findT T 1 l)) ∧ Keep w w' := by
  obtain ⟨a, cap, rfl, hx⟩ := hv
  rw [srow_len]
  obtain ⟨r, hr, _⟩ := hw.get1
  have HT := Lib.hid h
  have HW := Lib.hid hw
  have HX := Lib.hid hx
  have HS := Lib.hid hs
  have c0 : w.cell? ⟨p, 0, none⟩ = some (.map (some tb)) := blk_cell h.tree 0
  have r0 := h.look1 hw.sorted hr (by decide)
  have Hr := Lib.hid hr
  have hl2 : (l.length : Int) ≤ 9223372036854775807 := by omega
  clear h hw hx hs hr hl
  go_enter Tryz.func76, Tryz.ntmps76
  go_wp2_with fail
  go_loop [6, 18] (fun n i => ∃ (i0 : Nat) (k : Int) (nd : Nd), i0 ≤ l.length ∧ i = .int .i64 (i0 : Int) ∧ n = .pointer (some ⟨A k, 0, none⟩) ∧ RowKit.Hid (T.get k = some nd ∧ findT T 1 l = findT T k (l.drop i0))) (fun _ i => l.length - (intOf i).toNat)
  case atStart => exact ⟨0, 1, r, by omega, rfl, rfl, Lib.hid ⟨Hr.out, rfl⟩⟩
  case round =>
    clear r0 Hr
    obtain ⟨i0, k, nd, hi, rfl, rfl, Hk⟩ := hrel
    by_cases hlt : i0 < l.length
    · obtain ⟨s, hs⟩ : ∃ s, l[i0]? = some s := ⟨_, List.getElem?_eq_getElem hlt⟩
      have Hs := Lib.hid hs
      have Hst : RowKit.Hid (findT T 1 l = findT T k (s :: l.drop (i0 + 1))) := Lib.hid (by
        rw [Hk.out.2]; congr 1
        rw [List.drop_eq_getElem_cons hlt]
        congr 1
        exact Option.some.inj ((List.getElem?_eq_getElem hlt).symm.trans hs))
      obtain ⟨b, o, rfl, cs⟩ := HX.out i0 (.string ⟨s.toArray⟩) (by simp [srow, hs])
      clear hs
      have c1 : w.cell? ⟨A k, 1, none⟩ = some (.bool nd.dir) := HT.out.cell HW.out.sorted Hk.out.1 1
      have c4 : w.cell? ⟨A k, 4, none⟩ = some (.map (if nd.dir = true then some (M k) else none)) := HT.out.cell HW.out.sorted Hk.out.1 4
      cases hd : nd.dir with
      | false =>
        rw [hd] at c1
        have Hv : RowKit.Hid (findT T 1 l = .error 143) := Lib.hid (by rw [Hst.out, find_cons, Hk.out.1]; simp [hd])
        clear hd c4
        go_wp2_with fail
        go_ret2
        exact ⟨by rw [Hv.out]; rfl, Mod.refl _ _⟩
      | true =>
        rw [hd] at c1 c4
        rw [if_pos rfl] at c4
        have r1 := HT.out.lookN HW.out.sorted Hk.out.1 hd s (by have := HS.out s (List.mem_of_getElem? Hs.out); omega)
        cases hg : getN s nd.names with
        | none =>
          rw [hg] at r1
          have Hv : RowKit.Hid (findT T 1 l = .error 141) := Lib.hid (by rw [Hst.out, find_cons, Hk.out.1]; simp [hd, hg])
          clear hd hg
          go_wp2_with fail
          go_ret2
          exact ⟨by rw [Hv.out]; rfl, Mod.refl _ _⟩
        | some j =>
          rw [hg] at r1
          have Hv : RowKit.Hid (findT T 1 l = findT T j (l.drop (i0 + 1))) := Lib.hid (by rw [Hst.out, find_cons, Hk.out.1]; simp [hd, hg])
          obtain ⟨hm, _⟩ := (get_iff HW.out.sorted).1 Hk.out.1
          obtain ⟨_, nj, hnj, hjn⟩ := HW.out.closed nd hm _ ((getG_iff (HW.out.snames nd hm)).1 hg)
          have hgj := (get_iff HW.out.sorted).2 ⟨hnj, hjn⟩
          have hjb : -9223372036854775808 ≤ j ∧ j ≤ 9223372036854775807 := by
            have := HW.out.nums nj hnj
            simp only at hjn
            omega
          have r2 := HT.out.look1 HW.out.sorted hgj hjb
          have Hgj := Lib.hid hgj
          clear hd hg hm hnj hjn hgj
          go_wp2_with fail
          exact ⟨⟨i0 + 1, j, nj, by omega, by go_num, rfl, Lib.hid ⟨Hgj.out, Hv.out⟩⟩, by simp [intOf]; omega⟩
    · have Hv : RowKit.Hid (findT T 1 l = .ok k) := Lib.hid (by
        rw [Hk.out.2, List.drop_of_length_le (by omega)]; rfl)
      go_wp2_with fail
      go_ret2
      exact ⟨by rw [Hv.out]; rfl, Mod.refl _ _⟩
end
end Go.Proofs.YthmpblccplphfaaGreatDoor
