/-
  The library's contracts in lists of bytes, for worlds that meet Env.
-/
import Derived.Test.YthmpblccplphfaaGreatDoorEnv
namespace Go.Proofs.YthmpblccplphfaaGreatDoor
open Go.RowKit Go.Sort Go.Lib
theorem keep_grow {w0 w : World} {S : Nat → Prop} (h : Mod S w0 w) (os : Array Obj) : Mod S w0 (grow w os) :=
  ⟨h.os, h.tape, h.output, by have := h.size; simp [grow]; omega, fun k hk hS => by
    rw [← h.block k hk hS]
    show (w.heap ++ os)[k]? = _
    rw [Array.getElem?_append_left (Nat.lt_of_lt_of_le hk h.size)]⟩
theorem keep_bytesWorld {w0 w : World} {S : Nat → Prop} (h : Mod S w0 w) (e : TypeId) (s : ByteArray) : Mod S w0 (Lib.bytesWorld w e s) := by
  have hs := h.size
  have h1 : Mod S w0 (w.drew.alloc (.cells (bytesCells w e s) e)) := h.drew.alloc _
  refine ⟨h1.os, h1.tape, h1.output, ?_, fun k hk hS => ?_⟩
  · have := h1.size
    simpa [Lib.bytesWorld, World.freeze] using this
  · rw [← h1.block k hk hS]
    show (Array.modify _ _ _)[k]? = _
    rw [Array.getElem?_modify, if_neg (by intro e; have e2 : w.heap.size = k := e; omega)]
theorem itoa_any (n : Int) (h0 : -9223372036854775808 ≤ n) (h1 : n ≤ 9223372036854775807) (w : World) (he : Env w) :
    Calls Tryz.prog 96 #[.int .i64 n] w fun e w' => e = .returned (.string ⟨(Lib.itoa n).toArray⟩) ∧ Keep w w' :=
  (Tryz.strconv_Itoa n h0 h1 w he.pow).mono fun _ _ ⟨a, k, os, b⟩ => ⟨a, by subst b; exact keep_grow ((Mod.refl _ w).drewN k) os⟩
/-- the number that Atoi tells, whatever its error -/
def atoiV (l : List UInt8) : Int := match Lib.atoiAll l with
  | .ok v => v
  | .range => Lib.atoiSat l
  | _ => 0
theorem atoi_any (l : List UInt8) (hl : l.length ≤ 140737488355328) (w : World) (he : Env w) :
    Calls Tryz.prog 99 #[.string ⟨l.toArray⟩] w fun e w' => (∃ x, e = .returned (.tuple #[.int .i64 (atoiV l), x])) ∧ Keep w w' := by
  have hsz : ({ data := l.toArray } : ByteArray).size = l.length := by simp [ByteArray.size]
  cases h : Lib.atoiAll l with
  | ok v =>
    have ev : atoiV l = v := by simp [atoiV, h]
    rw [ev]
    refine (Tryz.strconv_Atoi_ok ⟨l.toArray⟩ (by rw [hsz]; omega) v h w).mono fun e w' ⟨a, b⟩ => ⟨⟨_, a⟩, ?_⟩
    rcases b with rfl | ⟨t, rfl⟩
    · exact Mod.refl _ _
    · exact keep_bytesWorld (Mod.refl _ w) _ _
  | range =>
    have ev : atoiV l = Lib.atoiSat l := by simp [atoiV, h]
    rw [ev]
    obtain ⟨tp, p, hv⟩ := he.rng
    exact (Tryz.strconv_Atoi_range_var ⟨l.toArray⟩ (by rw [hsz]; omega) h tp p w hv).mono fun e w' ⟨N, a, _, _, b⟩ => ⟨⟨_, a⟩, Mod.ofBelow b⟩
  | _ =>
    have ev : atoiV l = 0 := by simp [atoiV, h]
    rw [ev]
    obtain ⟨tp, p, hv⟩ := he.syn
    exact (Any.strconv_Atoi_syntax_var Tryz.laysC172 ⟨l.toArray⟩ (by rw [hsz]; omega) h tp p w hv).mono fun e w' ⟨N, a, _, _, b⟩ => ⟨⟨_, a⟩, Mod.ofBelow b⟩
theorem atoiV_bounds (l : List UInt8) : -9223372036854775808 ≤ atoiV l ∧ atoiV l ≤ 9223372036854775807 := by
  unfold atoiV
  split
  · rename_i h; exact Lib.atoiAll_bounds h
  · exact Lib.atoiSat_bounds l
  · omega
/-- strings as cells -/
def scells (xs : List (List UInt8)) : Array Value := (xs.map fun x => Value.string ⟨x.toArray⟩).toArray
@[go_sem] theorem scells_size (xs : List (List UInt8)) : (scells xs).size = xs.length := by simp [scells]
theorem scells_get (xs : List (List UInt8)) (i : Nat) : (scells xs)[i]? = xs[i]?.map fun x => Value.string ⟨x.toArray⟩ := by simp [scells]
theorem split_any (c : UInt8) (l : List UInt8) (hl : l.length < 4294967281) (w : World) (he : Env w) :
    Calls Tryz.prog 106 #[.string ⟨l.toArray⟩, .string ⟨#[c]⟩] w fun e w' => e = .returned (.slice (some ⟨w.heap.size, 0, none⟩) (spl c l).length (spl c l).length) ∧ w' = w.alloc (.cells (scells (spl c l)) 9) := by
  have h := Tryz.strings_Split_shaped ⟨l.toArray⟩ ⟨#[c]⟩ w he.shaped (by simpa [ByteArray.size] using hl) (by simp [ByteArray.size])
  have e0 := countB_spl c l
  have e1 := splitB_spl c l
  refine h.mono fun e w' ⟨a, b⟩ => ⟨?_, ?_⟩
  · rw [a, ← e0]
  · rw [b, e1, scells, List.map_map]; rfl
theorem cutPrefix_any (s p : List UInt8) (w : World) :
    Calls Tryz.prog 105 #[.string ⟨s.toArray⟩, .string ⟨p.toArray⟩] w fun e w' => e = .returned (.tuple #[.string ⟨(Lib.trimPrefix s p).toArray⟩, .bool (Lib.hasPrefix s p)]) ∧ w' = w :=
  Tryz.strings_CutPrefix ⟨s.toArray⟩ ⟨p.toArray⟩ w
/-- a row of strings of the call's own -/
abbrev OwnStrs (w : World) (base : Nat) (v : Value) (xs : List (List UInt8)) : Prop := w.ownsRow base 9 1 v xs.length (scells xs).toList
theorem join_any (c : UInt8) (xs : List (List UInt8)) (base : Nat) (v : Value) (w : World) (h : OwnStrs w base v xs) (hn : xs.length ≤ 140737488355328) (hlen : (Lib.join xs [c]).length ≤ 140737488355328) :
    Calls Tryz.prog 70 #[v, .string ⟨#[c]⟩] w fun e w' => e = .returned (.string ⟨(Lib.join xs [c]).toArray⟩) ∧ Keep w w' := by
  obtain ⟨h1, h2⟩ := h
  rcases h2 with ⟨rfl, h3⟩ | ⟨g, cap, cur, rfl, hb, hg, hnc, hm, hsz, htk⟩
  · obtain rfl := List.length_eq_zero_iff.1 h3
    exact (Tryz.strings_Join_none none 0 ⟨#[c]⟩ w).mono fun e w' ⟨a, b⟩ => ⟨a, b ▸ Mod.refl _ _⟩
  · have e0 : (xs.map fun x => (⟨x.toArray⟩ : ByteArray)).length = xs.length := by simp
    have e1 : (xs.map fun x => (⟨x.toArray⟩ : ByteArray)).map (·.data.toList) = xs := (List.map_map).trans (List.map_id xs)
    have h := Tryz.strings_Join g 0 cap (xs.map fun x => (⟨x.toArray⟩ : ByteArray)) ⟨#[c]⟩ w (fun j x hx => by
      rw [Nat.zero_add]
      simp only [List.getElem?_map, Option.map_eq_some_iff] at hx
      obtain ⟨y, hy, rfl⟩ := hx
      have hlt := (List.getElem?_eq_some_iff.1 hy).1
      have hc : cur.toList[j]? = some (Value.string ⟨y.toArray⟩) := by
        have : (cur.toList.take (xs.length * 1))[j]? = some (Value.string ⟨y.toArray⟩) := by rw [htk]; simp [scells, hy]
        rwa [List.getElem?_take, if_pos (by omega)] at this
      have : w.cell? ⟨g, j, none⟩ = cur[j]? := by simp [World.cell?, hg]
      rw [this, ← Array.getElem?_toList]; exact hc) (lt_of_obj hg) (by rw [e0]; exact hn) (by rw [e0]; exact hnc) (by rw [e1]; exact hlen)
    rw [e0, e1] at h
    exact h.mono fun e w' ⟨a, b⟩ => ⟨a, Mod.ofBelow b⟩
/-- append(v, news...) behind a row of the call's own: news lie in the block that was made last -/
theorem append_own {P : Program} {ts te : TypeId} {z : Value} {bytes : Nat} (hs : P.underlying ts = some (.slice te)) (hi : (P.info? te).map (fun i => (i.zero, i.size, i.bytes)) = some (some z, 1, bytes)) (hz : z.cells.size = 1) (base : Nat) (v : Value) (n : Nat) (xs : List Value) (w w0 : World)
    (hown : w.ownsRow base te 1 v n xs) (news : List Value) (h1 : ∀ u ∈ news, u.oneCell' = true) (hn : n + news.length ≤ maxLen) (hnb : (n + news.length) * bytes ≤ 140737488355328) (hbase : base ≤ w.heap.size) (h0 : Keep w0 w) (hb0 : w0.heap.size ≤ base) :
    ∃ v' w', (Builtin.append_ #[ts, ts] ts #[v, .slice (some ⟨w.heap.size, 0, none⟩) news.length news.length]).run P (w.alloc (.cells news.toArray te)) = .ok v' w' ∧ w'.ownsRow base te 1 v' (n + news.length) (xs ++ news) ∧ Keep w0 w' ∧ Mod (fun b => base ≤ b) w w' := by
  obtain ⟨i0, hi, hz0, hz1, hz2⟩ := info_parts hi
  obtain ⟨v', w', h1, h2, h3, _⟩ := run_append_own (P := P) (w.alloc (.cells news.toArray te)) base ts ts te i0 z 1 bytes hs hi hz0 hz1 hz2 hz (by decide) v n xs (hown.alloc _) ⟨w.heap.size, 0, none⟩ news.length news.length news (by simp) (fun j u hu => by
    rw [addr_add, Nat.zero_add, World.cell?_alloc_at _ _ _ _ rfl]; simpa using hu) h1 (by exact hn) hnb (by simp; omega)
  exact ⟨v', w', h1, h2, Mod.grown (h0.alloc _) h3 (fun k hk => .inr (Nat.le_trans hb0 (hown.lt k hk).1)), Mod.grown ((Mod.refl _ w).alloc _) h3 (fun k hk => .inl (hown.lt k hk).1)⟩
end Go.Proofs.YthmpblccplphfaaGreatDoor
