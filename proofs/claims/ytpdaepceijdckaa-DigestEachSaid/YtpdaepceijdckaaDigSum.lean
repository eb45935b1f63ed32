import Derived.Test.YtpdaepceijdckaaDigWrite
namespace Go.Proofs.Ytpdaepceijdckaa
open Go.RowKit
attribute [local go_sem] wrap_add_U bits_xor_U bits_or_U wrap_U

theorem round_new (v : St) (t : TypeId) (w : World) (k : Nat) :
    Calls Try.prog 18 #[.pointer (some ⟨w.heap.size, 0, none⟩)] ((w.alloc (.cells (v.cells []) t)).drewN k) fun e w' => e = .returned (.tuple #[]) ∧ ∃ n, (w.alloc (.cells (v.round.cells []) t)).drewN n = w' := by
  have h := round_any w.heap.size v [] t (w.alloc (.cells (v.cells []) t)) k (by simp)
  rwa [alloc_putB, alloc_putB] at h
theorem take_new (v : St) (m : UInt64) (t : TypeId) (w : World) (k : Nat) :
    Calls Try.prog 17 #[.pointer (some ⟨w.heap.size, 0, none⟩), .int .u64 m.toNat] ((w.alloc (.cells (v.cells []) t)).drewN k) fun e w' => e = .returned (.tuple #[]) ∧ ∃ n, (w.alloc (.cells ((v.take m).cells []) t)).drewN n = w' := by
  have h := take_any w.heap.size v m [] t (w.alloc (.cells (v.cells []) t)) k (by simp)
  rwa [alloc_putB, alloc_putB] at h

/-- The last word: what is left over, and the size's lowest byte on top. -/
def lastWord (rest : List UInt8) (size : Nat) : UInt64 := or (word rest) (UInt64.ofNat (size * 2 ^ 56))
theorem last_eq (rest : List UInt8) (size : Nat) : bits .or .u64 ((word rest).toNat : Int) (IntKind.u64.wrap ((size : Int) * 72057594037927936)) = ((lastWord rest size).toNat : Int) := by
  have e : IntKind.u64.wrap ((size : Int) * 72057594037927936) = (((UInt64.ofNat (size * 2 ^ 56)).toNat : Nat) : Int) := by
    rw [IntKind.wrap_u64, UInt64.toNat_ofNat']; omega
  rw [e, bits_or_U, lastWord]
/-- The four last rounds. -/
def St.rounds : Nat → St → St
  | 0, v => v
  | n + 1, v => (St.rounds n v).round
def St.final (v : St) : UInt64 :=
  let r := St.rounds 4 { v with c := xor v.c 255 }
  xor (xor (xor r.a r.b) r.c) r.d
def byteOf (x : UInt64) (i : Nat) : UInt8 := (shr x (8 * i)).toUInt8
def leBytes (x : UInt64) : List UInt8 := (List.range 8).map (byteOf x)
def outCells (x : UInt64) (k : Nat) : Array Value := ((List.range 8).map fun i => if i < k then Value.int .u8 ((byteOf x i).toNat : Int) else .int .u8 0).toArray
theorem out_set (x : UInt64) (k : Nat) (h : k < 8) : (outCells x k).setIfInBounds k (.int .u8 ((byteOf x k).toNat : Int)) = outCells x (k + 1) := by
  match k, h with
  | 0, _ => rfl
  | 1, _ => rfl
  | 2, _ => rfl
  | 3, _ => rfl
  | 4, _ => rfl
  | 5, _ => rfl
  | 6, _ => rfl
  | 7, _ => rfl
theorem out_get (x : UInt64) (k : Nat) (h : k < 8) : (outCells x k)[k]? = some (.int .u8 0) := by
  match k, h with
  | 0, _ => rfl
  | 1, _ => rfl
  | 2, _ => rfl
  | 3, _ => rfl
  | 4, _ => rfl
  | 5, _ => rfl
  | 6, _ => rfl
  | 7, _ => rfl
theorem byteOf_toNat (x : UInt64) (k : Nat) (h : k < 8) : (x.toNat : Int) / 2 ^ (8 * k) % 256 = ((byteOf x k).toNat : Int) := by
  rw [byteOf, UInt64.toNat_toUInt8, shr_U x (8 * k) (by omega)]; omega
def sumOf (v : St) (rest : List UInt8) (size : Nat) : List UInt8 := leBytes (v.take (lastWord rest size)).final

set_option maxHeartbeats 400000 in
theorem sum_any (b : Nat) (v : St) (rest : List UInt8) (size : Nat) (w : World) (hB : World.blk w b (hcells v rest size) 45) (hr : rest.length < 8) (hs : size ≤ 9223372036854775807) :
    Calls Try.prog 13 #[.pointer (some ⟨b, 0, none⟩)] w fun e w' => e = .returned (.string ⟨(sumOf v rest size).toArray⟩) ∧ Keep w w' := by
  have hc : ∀ v : St, v.cells [] = #[.int .u64 v.a.toNat, .int .u64 v.b.toNat, .int .u64 v.c.toNat, .int .u64 v.d.toNat] := fun _ => rfl
  have h0 : w.cell? ⟨b, 0, none⟩ = some (.int .u64 v.a.toNat) := blk_cell hB 0
  have h1 : w.cell? ⟨b, 1, none⟩ = some (.int .u64 v.b.toNat) := blk_cell hB 1
  have h2 : w.cell? ⟨b, 2, none⟩ = some (.int .u64 v.c.toNat) := blk_cell hB 2
  have h3 : w.cell? ⟨b, 3, none⟩ = some (.int .u64 v.d.toNat) := blk_cell hB 3
  have h4 : w.cell? ⟨b, 4, none⟩ = some (.string ⟨rest.toArray⟩) := blk_cell hB 4
  have h5 : w.cell? ⟨b, 5, none⟩ = some (.int .i64 size) := blk_cell hB 5
  have hlt := blk_lt hB
  have hmk : ∀ (x : UInt64) (w : World), (Instr.makeSlice 34 (.int .i64 8) (.int .i64 8)).run Try.prog w = .ok (.slice (some ⟨w.heap.size, 0, none⟩) 8 8) (w.alloc (.cells (outCells x 0) 5)) := fun _ _ => by kernel_rfl
  have Hmk := Lib.hid hmk
  have hx : (255 : Int) = ((255 : UInt64).toNat : Int) := rfl
  have Hx := Lib.hid hx
  clear hB hx hmk
  go_enter Try.func13, Try.ntmps13
  go_wp2_with fail
  rw [← World.drewN_zero (w := w.alloc _)]
  refine wp_region_qd 12 (by kernel_rfl) (by kernel_rfl) ?_
  simp only [List.take_succ_cons, List.take_zero, List.drop_succ_cons, List.drop_zero]
  repeat (quiet_step ((exact Calls.quiet_of_same (read_list _ _ (by first | omega | (simp; done) | (simp; omega))))))
  refine wpQuiet_nil ?_
  intro _ hw'
  obtain ⟨nq, rfl⟩ := hw'
  go_wp2_with fail
  rw [last_eq]
  refine (take_new v _ _ w nq).mono ?_
  rintro e w1 ⟨rfl, n1, rfl⟩
  generalize hr1 : v.take (lastWord rest size) = r1
  have Hr1 := Lib.hid hr1
  clear hr1 h0 h1 h2 h3 h4 h5 hlt
  rw [hc r1]
  have hx255 := bits_xor_U r1.c 255
  rw [← Hx.out] at hx255
  go_wp2_with fail
  go_loopw [28] (fun i wr => ∃ (k : Nat) (u : St) (n : Nat), k ≤ 4 ∧ i = .int .i64 k ∧ u = St.rounds k { r1 with c := xor r1.c 255 } ∧ wr = (w.alloc (.cells (u.cells []) 43)).drewN n) (fun i _ => 4 - (intOf i).toNat)
  case atStart => exact ⟨0, _, n1, by omega, rfl, rfl, rfl⟩
  case round =>
    obtain ⟨k, u, n, hk, rfl, hu, rfl⟩ := hrel
    have Hu := Lib.hid hu
    clear hu
    by_cases hlt : k < 4
    · go_wp2_with fail
      refine (round_new u _ w n).mono ?_
      rintro e w1 ⟨rfl, n2, rfl⟩
      go_wp2_with fail
      go_roundw
      case rel => exact ⟨k + 1, _, n2, by omega, by go_num, by rw [St.rounds, ← Hu.out], rfl⟩
      case measure => simp [intOf]; omega
    · obtain rfl : k = 4 := by omega
      have hfin : St.final r1 = xor (xor (xor u.a u.b) u.c) u.d := by rw [Hu.out]; rfl
      have Hfin := Lib.hid hfin
      clear Hu Hx
      have hmk := Hmk.out (xor (xor (xor u.a u.b) u.c) u.d)
      clear Hmk hfin
      rw [hc u]
      go_wp2_with fail
      clear hmk
      have Hfin' : ∀ X, xor (xor (xor u.a u.b) u.c) u.d = X → RowKit.Hid (St.final r1 = X) := fun X h => Hfin.out.trans h
      generalize hX : xor (xor (xor u.a u.b) u.c) u.d = X
      have Hfin := Hfin' X hX
      clear Hfin' hX
      clear hx255 hlt hk
      obtain ⟨w2, hw2⟩ : ∃ w2, w2 = w.alloc (.cells #[.int .u64 u.a.toNat, .int .u64 u.b.toNat, .int .u64 u.c.toNat, .int .u64 u.d.toNat] 43) := ⟨_, rfl⟩
      have hsz : w2.heap.size = w.heap.size + 1 := by rw [hw2]; simp
      rw [← hw2, ← hsz]
      have Hw2 := Lib.hid hw2
      have Hsz := Lib.hid hsz
      clear hw2 hsz
      go_loopw [6, 46] (fun _ i wr => ∃ (k : Nat) (n : Nat), k ≤ 8 ∧ i = .int .i64 k ∧ wr = (w2.alloc (.cells (outCells X k) 5)).drewN n) (fun _ i _ => 8 - (intOf i).toNat)
      case atStart => exact ⟨0, n, by omega, rfl, rfl⟩
      case round =>
        obtain ⟨k, n3, hk, rfl, rfl⟩ := hrel
        by_cases hlt : k < 8
        · have hg := out_get X k hlt
          have hby := byteOf_toNat X k hlt
          go_wp2_with fail
          clear hg hby
          go_roundw
          case rel => exact ⟨k + 1, n3, by omega, by go_num, by rw [out_set X k hlt]⟩
          case measure => simp [intOf]; omega
        · obtain rfl : k = 8 := by omega
          have hcv : ∀ j, j < 8 → ((w2.alloc (.cells (outCells X 8) 5)).drewN n3).cell? ⟨w2.heap.size, 0 + j, none⟩ = (u8s (leBytes X))[j]? := fun j hj => by
            rw [World.cell?_drewN, Nat.zero_add, World.cell?_alloc_at _ _ _ _ rfl]
            match j, hj with
            | 0, _ => rfl
            | 1, _ => rfl
            | 2, _ => rfl
            | 3, _ => rfl
            | 4, _ => rfl
            | 5, _ => rfl
            | 6, _ => rfl
            | 7, _ => rfl
          have hst := run_str (P := Try.prog) ((w2.alloc (.cells (outCells X 8) 5)).drewN n3) 34 9 5 w2.heap.size 0 8 8 (leBytes X) Try.underlying34 Try.underlying5 Try.underlying9 rfl hcv
          have Hm : RowKit.Hid (Keep w ((w2.alloc (.cells (outCells X 8) 5)).drewN n3)) := by rw [Hw2.out]; exact (((Mod.refl _ _).alloc _).alloc _).drewN _
          clear hcv
          go_wp2_with fail
          go_ret
          refine ⟨?_, Hm.out⟩
          rw [sumOf, Hr1.out, Hfin.out]
          rfl
end Go.Proofs.Ytpdaepceijdckaa
