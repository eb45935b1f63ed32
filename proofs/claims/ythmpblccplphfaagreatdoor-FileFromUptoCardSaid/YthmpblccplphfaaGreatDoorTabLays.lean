/-
  tables.lays: a list of entries as bytes.
-/
import Derived.Test.YthmpblccplphfaaGreatDoorTabForm
namespace Go.Proofs.YthmpblccplphfaaGreatDoor
open Go.RowKit
def lastOf (was : Option (List UInt8)) (l : Nm) : Option (List UInt8) := match l.getLast? with | some p => some p.1 | none => was
theorem entsB_append (a b : Nm) : ∀ was, entsB was (a ++ b) = (entsB was a && entsB (lastOf was a) b) := by
  induction a with
  | nil => intro was; simp [entsB, lastOf]
  | cons p r ih =>
    intro was
    have e : lastOf (some p.1) r = lastOf was (p :: r) := by
      cases r with
      | nil => simp [lastOf]
      | cons q r =>
        unfold lastOf
        rw [List.getLast?_cons_cons]
        cases h : (q :: r).getLast? with
        | none => simp at h
        | some y => rfl
    rw [List.cons_append, entsB, ih, entsB, e, Bool.and_assoc]
theorem take_snoc {α : Type} {l : List α} {k : Nat} {x : α} (h : l[k]? = some x) : l.take (k + 1) = l.take k ++ [x] := by
  rw [List.take_add_one, h]; rfl
theorem entsB_take {l : Nm} {k : Nat} {x : List UInt8 × Int} (h : l[k]? = some x) : entsB none (l.take (k + 1)) = (entsB none (l.take k) && entB (lastOf none (l.take k)) x) := by
  rw [take_snoc h, entsB_append]; simp [entsB]
theorem entsB_no {l : Nm} {k : Nat} {x : List UInt8 × Int} (h : l[k]? = some x) (h2 : entB (lastOf none (l.take k)) x = false) : entsOk l = false := by
  have e : entsB none l = (entsB none (l.take (k + 1)) && entsB (lastOf none (l.take (k + 1))) (l.drop (k + 1))) := by
    rw [← entsB_append, List.take_append_drop]
  unfold entsOk
  rw [e, entsB_take h, h2]; simp
/-- the entry ahead, as the loop holds it -/
def aheadOf (l : Nm) (k : Nat) : List UInt8 × Int := (l.take k).getLastD ([], 0)
theorem may_ent {l : Nm} {k : Nat} (x : List UInt8 × Int) (hk : k ≤ l.length) : mayB (aheadOf l k) x (decide (k = 0)) = entB (lastOf none (l.take k)) x := by
  cases k with
  | zero => simp [mayB, entB, lastOf]
  | succ k =>
    obtain ⟨y, hy⟩ : ∃ y, l[k]? = some y := ⟨_, List.getElem?_eq_getElem (by omega)⟩
    simp [mayB, entB, lastOf, aheadOf, take_snoc hy]
theorem ahead_succ {l : Nm} {k : Nat} {x : List UInt8 × Int} (h : l[k]? = some x) : aheadOf l (k + 1) = x := by
  unfold aheadOf; rw [take_snoc h]; simp
theorem as_int_no (s : ByteArray) (W : World) : (Instr.typeAssert (.iface 9 (.string s)) 20 3 true).run Tryz.prog W = .ok (.tuple #[.int .i64 0, .bool false]) W := by kernel_rfl
theorem as_str_yes (s : ByteArray) (W : World) : (Instr.typeAssert (.iface 9 (.string s)) 20 9 true).run Tryz.prog W = .ok (.tuple #[.string s, .bool true]) W := by kernel_rfl
theorem as_int_yes (n : Int) (W : World) : (Instr.typeAssert (.iface 3 (.int .i64 n)) 20 3 true).run Tryz.prog W = .ok (.tuple #[.int .i64 n, .bool true]) W := by kernel_rfl
def laysR (l : Nm) : Value := if entsOk l = true then .tuple #[.string ⟨(encE l).toArray⟩, .int .i64 0] else .tuple #[.string ⟨#[]⟩, .int .i64 120]
theorem ents_len {l : Nm} : ∀ was, entsB was l = true → (l.flatMap encE1).length ≤ l.length * 34 := by
  induction l with
  | nil => intro _ _; simp
  | cons p r ih =>
    intro was h
    rw [entsB, Bool.and_eq_true] at h
    have h2 := ih _ h.2
    have h1 := h.1
    simp only [entB, nameOk, Bool.and_eq_true, decide_eq_true_eq] at h1
    have e1 := encN_9 (n := p.1.length) (by have := h1.1.1.1.1.1.2; omega)
    have e2 := encN_9 (n := p.2.toNat) (by have := h1.2; omega)
    have e3 : p.1.length ≤ 16 := h1.1.1.1.1.1.2
    rw [List.flatMap_cons, List.length_append, List.length_cons]
    have : (encE1 p).length ≤ 34 := by unfold encE1; simp; omega
    omega
theorem pre_len {l : Nm} {k : Nat} {pre : List UInt8} (h : encN l.length ++ (l.take k).flatMap encE1 = pre) (hl : l.length ≤ 4096) (he : entsB none (l.take (k + 1)) = true) : pre.length ≤ 1000000 := by
  have h2 : entsB none (l.take k) = true := by
    rw [← List.take_append_drop k (l.take (k + 1)), entsB_append, Bool.and_eq_true] at he
    have := he.1
    rwa [List.take_take, Nat.min_eq_left (by omega)] at this
  have h3 := ents_len _ h2
  have h4 := encN_9 (n := l.length) (by omega)
  have h5 : (l.take k).length ≤ 4096 := by rw [List.length_take]; omega
  rw [← h, List.length_append]
  omega
set_option maxRecDepth 100000 in
set_option maxHeartbeats 4000000 in
theorem lays_any (l : Nm) (v : Value) (w : World) (hrow : RowF entC 2 w v l) (hl : l.length ≤ 1000000000) (hs : ∀ p ∈ l, p.1.length ≤ 1000000000 ∧ -9223372036854775808 ≤ p.2 ∧ p.2 ≤ 9223372036854775807) :
    Calls Tryz.prog 94 #[formV, v] w fun e w' => e = .returned (laysR l) ∧ Keep w w' := by
  obtain ⟨a, cap, rfl, hx⟩ := hrow
  have HX := Lib.hid hx
  have HS := Lib.hid hs
  clear hx hs
  by_cases hlen : l.length ≤ 4096
  · have h1 : ¬ (4096 : Int) < l.length := by omega
    have Hl := Lib.hid hlen
    clear hlen hl
    go_enter Tryz.func94, Tryz.ntmps94
    go_wp2_with fail
    refine (wnum_ok l.length _ (by have := Hl.out; omega)).mono ?_
    rintro e w2 ⟨rfl, hk2⟩
    have HBF : RowKit.Hid (World.blk w2 w.heap.size #[.func (.func 114) #[] #[], .func (.func 115) #[] #[], .func (.func 116) #[] #[]] 140) := Lib.hid (blk_mod hk2 (blk_alloc (blk_new _ _ _) _) id)
    have HBB : RowKit.Hid (IsBld (w.heap.size + 1) (w.heap.size + 1) [] w2) := Lib.hid (by
      have h := bld_new (w.alloc (.cells #[.func (.func 114) #[] #[], .func (.func 115) #[] #[], .func (.func 116) #[] #[]] 140))
      rw [show (w.alloc (.cells #[.func (.func 114) #[] #[], .func (.func 115) #[] #[], .func (.func 116) #[] #[]] 140)).heap.size = w.heap.size + 1 by simp] at h
      exact bld_keep h hk2)
    have HK2 := Lib.hid (unalloc (unalloc hk2))
    have hsz2 := hk2.size
    simp at hsz2
    clear hk2
    go_wp2_with fail
    refine (bld_str (w.heap.size + 1) (w.heap.size + 1) [] (encN l.length) w2 HBB.out (by have := encN_9 (n := l.length) (by have := Hl.out; omega); simp; omega) (by omega)).mono ?_
    rintro e w3 ⟨rfl, hb3, hbe3, hm3⟩
    have HF3 := Lib.hid (blk_mod hm3 HBF.out (bldS_blk (by omega) HBF.out (by decide)))
    have HB3 := Lib.hid hb3
    have HK3 := Lib.hid (keep_below HK2.out hbe3 (by omega))
    have hsz3 := hbe3.size
    rw [List.nil_append] at HB3
    clear hb3 hbe3 hm3 HBF HBB HK2
    go_wp2_with fail
    obtain ⟨wb, hwb⟩ : ∃ wb, wb = w3.heap.size := ⟨_, rfl⟩
    have HW0 : RowKit.Hid (World.blk (w3.alloc (.cells #[.string ⟨#[]⟩, .int .i64 0] 98)) wb #[.string ⟨#[]⟩, .int .i64 0] 98) := Lib.hid (blk_new_at hwb _ _)
    have HF0 := Lib.hid (blk_alloc HF3.out (.cells #[.string ⟨#[]⟩, .int .i64 0] 98))
    have HB0 := Lib.hid (bld_keep HB3.out ((Mod.refl (fun _ => False) w3).alloc (.cells #[.string ⟨#[]⟩, .int .i64 0] 98)))
    have HK0 := Lib.hid (HK3.out.alloc (.cells #[.string ⟨#[]⟩, .int .i64 0] 98))
    have hwbn : w.heap.size + 2 ≤ wb := by omega
    clear HF3 HB3 HK3
    rw [← hwb]
    generalize w3.alloc (.cells #[.string ⟨#[]⟩, .int .i64 0] 98) = w4 at *
    clear hwb hsz3 hsz2
    go_loopw [30] (fun i wr => ∃ k : Nat, k ≤ l.length ∧ i = .int .i64 (k : Int) ∧ Keep w wr ∧ World.blk wr w.heap.size #[.func (.func 114) #[] #[], .func (.func 115) #[] #[], .func (.func 116) #[] #[]] 140 ∧ World.blk wr wb #[.string ⟨(aheadOf l k).1.toArray⟩, .int .i64 (aheadOf l k).2] 98 ∧ IsBld (w.heap.size + 1) (w.heap.size + 1) (encN l.length ++ (l.take k).flatMap encE1) wr ∧ RowKit.Hid (entsB none (l.take k) = true)) (fun i _ => l.length - (intOf i).toNat)
    case atStart => exact ⟨0, by omega, rfl, HK0.out, HF0.out, HW0.out, by simpa using HB0.out, Lib.hid rfl⟩
    case round =>
      clear HF0 HW0 HB0 HK0
      obtain ⟨k, hk, rfl, hK, hF, hW, hB, He⟩ := hrel
      have HK := Lib.hid hK
      have HF := Lib.hid hF
      have HW := Lib.hid hW
      have HB := Lib.hid hB
      clear hK hF hW hB
      by_cases hlt : k < l.length
      · obtain ⟨x, hx⟩ : ∃ x, l[k]? = some x := ⟨_, List.getElem?_eq_getElem hlt⟩
        have Hx := Lib.hid hx
        clear hx
        obtain ⟨b, o, rfl, hc⟩ := HX.out k x Hx.out
        have c0 : wr.cell? ⟨b, o + k * 2, none⟩ = some (.string ⟨x.1.toArray⟩) := by have h := hc 0 _ rfl; rw [HK.out.cell (p := ⟨b, o + k * 2, none⟩) (lt_of_cell h) id]; exact h
        have c1 : wr.cell? ⟨b, o + k * 2 + 1, none⟩ = some (.int .i64 x.2) := by have h := hc 1 _ rfl; rw [HK.out.cell (p := ⟨b, o + k * 2 + 1, none⟩) (lt_of_cell h) id]; exact h
        have f0 : wr.cell? ⟨w.heap.size, 0, none⟩ = some (.func (.func 114) #[] #[]) := blk_cell HF.out 0
        have f1 : wr.cell? ⟨w.heap.size, 1, none⟩ = some (.func (.func 115) #[] #[]) := blk_cell HF.out 1
        have g0 : wr.cell? ⟨wb, 0, none⟩ = some (.string ⟨(aheadOf l k).1.toArray⟩) := blk_cell HW.out 0
        have g1 : wr.cell? ⟨wb, 1, none⟩ = some (.int .i64 (aheadOf l k).2) := blk_cell HW.out 1
        obtain ⟨fb, hq⟩ : ∃ fb, ((k : Int) == 0) = fb := ⟨_, rfl⟩
        have z0 : w.heap.size < wr.heap.size := blk_lt HF.out
        have z1 : wb < wr.heap.size := blk_lt HW.out
        clear hc
        go_wp2_with fail
        refine (may_any (aheadOf l k) x fb _ (by have := (HS.out x (List.mem_of_getElem? Hx.out)).1; omega)).mono ?_
        rintro e w5 ⟨rfl, hk5⟩
        have HF5 := Lib.hid (blk_mod hk5 (blk_alloc HF.out _) id)
        have HW5 := Lib.hid (blk_mod hk5 (blk_alloc HW.out _) id)
        have HX5 := Lib.hid (blk_mod hk5 (blk_new wr _ _) id)
        have HB5 := Lib.hid (bld_keep HB.out (unalloc hk5))
        have HK5 := Lib.hid (HK.out.keep (unalloc hk5))
        have hs5 := hk5.size
        simp at hs5
        have Hm := Lib.hid (may_ent (l := l) (k := k) x (by omega))
        have Hq : RowKit.Hid (fb = decide (k = 0)) := Lib.hid (by rw [← hq, Bool.eq_iff_iff]; simp)
        clear hk5 c0 c1 f0 f1 g0 g1 z0 HF HW HB HK hq
        cases hmy : mayB (aheadOf l k) x fb with
        | false =>
          have Hv : RowKit.Hid (laysR l = .tuple #[.string ⟨#[]⟩, .int .i64 120]) := Lib.hid (by
            rw [Hq.out, Hm.out] at hmy
            simp [laysR, entsB_no Hx.out hmy])
          clear hmy
          go_wp2_with fail
          go_ret2
          exact ⟨by rw [Hv.out]; rfl, HK5.out⟩
        | true =>
          have He2 : RowKit.Hid (entsB none (l.take (k + 1)) = true) := Lib.hid (by
            rw [Hq.out, Hm.out] at hmy
            rw [entsB_take Hx.out, He.out, hmy]; rfl)
          clear hmy
          generalize wr.heap.size = xb at *
          have f1 : w5.cell? ⟨w.heap.size, 1, none⟩ = some (.func (.func 115) #[] #[]) := blk_cell HF5.out 1
          have g0 : w5.frozen? ⟨wb, 0, none⟩ = false := blk_free HW5.out _ rfl
          have g1 : w5.frozen? ⟨wb, 1, none⟩ = false := blk_free HW5.out _ rfl
          have g2 : w5.cell? ⟨wb, 0, none⟩ = some (.string ⟨(aheadOf l k).1.toArray⟩) := blk_cell HW5.out 0
          have g3 : w5.cell? ⟨wb, 1, none⟩ = some (.int .i64 (aheadOf l k).2) := blk_cell HW5.out 1
          have e0 : w5.cell? ⟨xb, 0, none⟩ = some (.string ⟨x.1.toArray⟩) := blk_cell HX5.out 0
          have e1 : w5.cell? ⟨xb, 1, none⟩ = some (.int .i64 x.2) := blk_cell HX5.out 1
          have n1 : ¬ w.heap.size = wb := by omega
          have n2 : ¬ xb = wb := by omega
          go_wp2_with fail
          refine (entput_any x _).mono ?_
          rintro e w7 ⟨pb, rfl, hpb, hk7, hp7⟩
          have hm6 : Mod (· = wb) w5 ((w5.setCell ⟨wb, 0, none⟩ (.string ⟨x.1.toArray⟩)).setCell ⟨wb, 1, none⟩ (.int .i64 x.2)) := ((Mod.refl (fun y => y = wb) w5).setCell (p := ⟨wb, 0, none⟩) (.inl rfl) _).setCell (p := ⟨wb, 1, none⟩) (.inl rfl) _
          have HF7 := Lib.hid (blk_mod hk7 (blk_mod hm6 HF5.out n1) id)
          have HB7 := Lib.hid (bld_keep (bld_mod HB5.out hm6 (by omega) (fun q c fr hq e => by
            subst e
            have := HW5.out
            unfold World.blk at this
            rw [this] at hq
            cases hq)) hk7)
          have HW7 : RowKit.Hid (World.blk w7 wb #[.string ⟨x.1.toArray⟩, .int .i64 x.2] 98) := Lib.hid (blk_mod hk7 (blk_set (blk_set HW5.out 0 _) 1 _) id)
          have HK7 := Lib.hid ((HK5.out.new hm6 (by omega)).keep hk7)
          have HP7 := Lib.hid hp7
          have hpw : wb < pb := by
            have h := blk_lt HW5.out
            have e : ((w5.setCell ⟨wb, 0, none⟩ (.string ⟨x.1.toArray⟩)).setCell ⟨wb, 1, none⟩ (.int .i64 x.2)).heap.size = w5.heap.size := by simp [World.setCell]
            omega
          have hxl : x.1.length ≤ 16 := by
            have h := He2.out
            rw [entsB_take Hx.out] at h
            simp only [Bool.and_eq_true, entB, nameOk, decide_eq_true_eq] at h
            exact h.2.1.1.1.1.1.2
          have hxn : 1 ≤ x.2 ∧ x.2 ≤ 65535 := by
            have h := He2.out
            rw [entsB_take Hx.out] at h
            simp only [Bool.and_eq_true, entB, decide_eq_true_eq] at h
            exact ⟨h.2.1.2, h.2.2⟩
          clear hk7 hp7 hm6 f1 g0 g1 g2 g3 e0 e1 n1 n2 HF5 HW5 HX5 HB5 HK5 hs5 hpb He Hm Hq
          generalize hpre : encN l.length ++ (l.take k).flatMap encE1 = pre at *
          have Hpre := Lib.hid hpre
          clear hpre
          go_wp2_with fail
          go_loopw [49] (fun i wr => ∃ j : Nat, j ≤ 2 ∧ i = .int .i64 (j : Int) ∧ Keep w wr ∧ World.blk wr w.heap.size #[.func (.func 114) #[] #[], .func (.func 115) #[] #[], .func (.func 116) #[] #[]] 140 ∧ World.blk wr wb #[.string ⟨x.1.toArray⟩, .int .i64 x.2] 98 ∧ World.blk wr pb #[.iface 9 (.string ⟨x.1.toArray⟩), .iface 3 (.int .i64 x.2)] 20 ∧ IsBld (w.heap.size + 1) (w.heap.size + 1) (pre ++ (if j = 0 then [] else if j = 1 then encN x.1.length ++ x.1 else encE1 x)) wr) (fun i _ => 2 - (intOf i).toNat)
          case atStart => exact ⟨0, by omega, rfl, HK7.out, HF7.out, HW7.out, HP7.out, by simpa using HB7.out⟩
          case round =>
            clear HF7 HB7 HW7 HK7 HP7
            obtain ⟨j, hj, rfl, hK, hF, hW, hP, hB⟩ := hrel
            have HK := Lib.hid hK
            have HF := Lib.hid hF
            have HW := Lib.hid hW
            have HP := Lib.hid hP
            have HB := Lib.hid hB
            have p0 : wr.cell? ⟨pb, 0, none⟩ = some (.iface 9 (.string ⟨x.1.toArray⟩)) := blk_cell hP 0
            have p1 : wr.cell? ⟨pb, 1, none⟩ = some (.iface 3 (.int .i64 x.2)) := blk_cell hP 1
            clear hK hF hW hP hB
            rcases (by omega : j = 0 ∨ j = 1 ∨ j = 2) with rfl | rfl | rfl
            · have a0 := as_int_no ⟨x.1.toArray⟩
              have a1 := as_str_yes ⟨x.1.toArray⟩
              go_wp2_with fail
              refine (wtext_any x.1 _ (by omega)).mono ?_
              rintro e w8 ⟨rfl, hk8⟩
              have HF8 := Lib.hid (blk_mod hk8 HF.out id)
              have HW8 := Lib.hid (blk_mod hk8 HW.out id)
              have HP8 := Lib.hid (blk_mod hk8 HP.out id)
              have HB8 : RowKit.Hid (IsBld (w.heap.size + 1) (w.heap.size + 1) pre w8) := Lib.hid (by have h := bld_keep HB.out hk8; simpa using h)
              have HK8 := Lib.hid (HK.out.keep hk8)
              have Hln : RowKit.Hid (pre.length ≤ 1000000) := Lib.hid (pre_len Hpre.out Hl.out He2.out)
              clear hk8 HF HW HP HB HK p0 p1 a0 a1
              go_wp2_with fail
              refine (bld_str (w.heap.size + 1) (w.heap.size + 1) pre (encN x.1.length ++ x.1) w8 HB8.out (by have := encN_9 (n := x.1.length) (by omega); have := Hln.out; simp; omega) (by have := blk_lt HW8.out; omega)).mono ?_
              rintro e w9 ⟨rfl, hb9, hbe9, hm9⟩
              have HF9 := Lib.hid (blk_mod hm9 HF8.out (bldS_blk (by omega) HF8.out (by decide)))
              have HW9 := Lib.hid (blk_mod hm9 HW8.out (bldS_blk (by omega) HW8.out (by decide)))
              have HP9 := Lib.hid (blk_mod hm9 HP8.out (bldS_blk (by omega) HP8.out (by decide)))
              have HB9 := Lib.hid hb9
              have HK9 := Lib.hid (keep_below HK8.out hbe9 (by omega))
              clear hb9 hbe9 hm9 HF8 HW8 HP8 HB8 HK8
              go_wp2_with fail
              refine ⟨⟨1, by omega, rfl, HK9.out, HF9.out, HW9.out, HP9.out, by simpa using HB9.out⟩, by decide⟩
            · obtain ⟨m, hm⟩ : ∃ m : Nat, x.2 = m := ⟨x.2.toNat, by omega⟩
              have Hm := Lib.hid hm
              rw [hm] at p1
              have a0 := as_int_yes m
              have hmb : m ≤ 65535 := by omega
              clear hm
              go_wp2_with fail
              refine (wnum_ok m _ (by omega)).mono ?_
              rintro e w8 ⟨rfl, hk8⟩
              have HF8 := Lib.hid (blk_mod hk8 HF.out id)
              have HW8 := Lib.hid (blk_mod hk8 HW.out id)
              have HP8 := Lib.hid (blk_mod hk8 HP.out id)
              have HB8 : RowKit.Hid (IsBld (w.heap.size + 1) (w.heap.size + 1) (pre ++ (encN x.1.length ++ x.1)) w8) := Lib.hid (by have h := bld_keep HB.out hk8; simpa using h)
              have HK8 := Lib.hid (HK.out.keep hk8)
              have Hln : RowKit.Hid (pre.length ≤ 1000000) := Lib.hid (pre_len Hpre.out Hl.out He2.out)
              clear hk8 HF HW HP HB HK p0 p1 a0
              go_wp2_with fail
              refine (bld_str (w.heap.size + 1) (w.heap.size + 1) _ (encN m) w8 HB8.out (by have := encN_9 (n := x.1.length) (by omega); have := encN_9 (n := m) (by omega); have := Hln.out; simp; omega) (by have := blk_lt HW8.out; omega)).mono ?_
              rintro e w9 ⟨rfl, hb9, hbe9, hm9⟩
              have HF9 := Lib.hid (blk_mod hm9 HF8.out (bldS_blk (by omega) HF8.out (by decide)))
              have HW9 := Lib.hid (blk_mod hm9 HW8.out (bldS_blk (by omega) HW8.out (by decide)))
              have HP9 := Lib.hid (blk_mod hm9 HP8.out (bldS_blk (by omega) HP8.out (by decide)))
              have HB9 : RowKit.Hid (IsBld (w.heap.size + 1) (w.heap.size + 1) (pre ++ encE1 x) w9) := Lib.hid (by
                have e : pre ++ encE1 x = pre ++ (encN x.1.length ++ x.1) ++ encN m := by rw [encE1, Hm.out, Int.toNat_natCast]; simp
                rw [e]; exact hb9)
              have HK9 := Lib.hid (keep_below HK8.out hbe9 (by omega))
              clear hb9 hbe9 hm9 HF8 HW8 HP8 HB8 HK8
              go_wp2_with fail
              refine ⟨⟨2, by omega, rfl, HK9.out, HF9.out, HW9.out, HP9.out, by simpa using HB9.out⟩, by decide⟩
            · clear p0 p1
              go_wp2_with fail
              refine ⟨⟨k + 1, by omega, by go_num, HK.out, HF.out, by rw [ahead_succ Hx.out]; exact HW.out, ?_, He2⟩, by simp [intOf]; omega⟩
              have h := HB.out
              rw [take_snoc Hx.out]
              simp only [List.flatMap_append, List.flatMap_cons, List.flatMap_nil, List.append_nil]
              rw [← List.append_assoc, Hpre.out]
              simpa using h
      · obtain rfl : k = l.length := by omega
        have HB1 : RowKit.Hid (IsBld (w.heap.size + 1) (w.heap.size + 1) (encE l) wr) := Lib.hid (by have h := HB.out; rwa [List.take_length] at h)
        have Hv : RowKit.Hid (laysR l = .tuple #[.string ⟨(encE l).toArray⟩, .int .i64 0]) := Lib.hid (by
          have h := He.out
          rw [List.take_length] at h
          simp [laysR, entsOk, h, Hl.out])
        go_wp2_with fail
        refine (bld_string (w.heap.size + 1) (w.heap.size + 1) (encE l) wr HB1.out (by have := blk_lt HW.out; omega)).mono ?_
        rintro e w6 ⟨rfl, hk6⟩
        have HK6 := Lib.hid (keep_below HK.out hk6 (by omega))
        clear hk6
        go_wp2_with fail
        go_ret2
        exact ⟨by rw [Hv.out]; rfl, HK6.out⟩
  · have h1 : (4096 : Int) < l.length := by omega
    have Hv : RowKit.Hid (laysR l = .tuple #[.string ⟨#[]⟩, .int .i64 120]) := Lib.hid (by simp [laysR, entsOk, hlen])
    clear hlen hl
    go_enter Tryz.func94, Tryz.ntmps94
    go_wp2_with fail
    go_ret2
    exact ⟨by rw [Hv.out]; rfl, (Mod.refl _ _).alloc _⟩
end Go.Proofs.YthmpblccplphfaaGreatDoor
