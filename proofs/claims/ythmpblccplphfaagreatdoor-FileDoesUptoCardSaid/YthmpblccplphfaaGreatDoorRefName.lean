/-
  The reference's tree of files: a directory has a name more, or less.
-/
import Derived.Test.YthmpblccplphfaaGreatDoorRefPut
namespace Go.Proofs.YthmpblccplphfaaGreatDoor
open Go.RowKit
/-! ### plain -/
theorem put_upd {T : Tr} (hs : Sorted T) {k : Int} {n : Nd} {f : Nd → Nd} (hg : T.get k = some n) (hf : (f n).num = k) : goPut (f n).told false (toldT T) = toldT (T.upd k f) := by
  have hfn : (f n).told.num = k := hf
  induction T with
  | nil => cases hg
  | cons y r ih =>
    obtain ⟨h1, h2⟩ := List.pairwise_cons.1 hs
    obtain ⟨hm, hk⟩ := (get_iff hs).1 hg
    show (if (f n).told.num ≤ y.told.num then _ else _) = _
    rw [hfn]
    rcases List.mem_cons.1 hm with rfl | hm
    · rw [if_pos (show k ≤ n.told.num by show k ≤ n.num; omega)]
      have e1 : ((toldT (n :: r)).filter fun z => !(z.num == k)) = toldT r := by
        show (List.filter _ (n.told :: toldT r)) = _
        rw [List.filter_cons, if_neg (by show ¬ (!(n.num == k)) = true; simp [hk])]
        refine List.filter_eq_self.2 fun z hz => ?_
        obtain ⟨m, hm, rfl⟩ := List.mem_map.1 hz
        have := h1 m hm
        show (!(m.num == k)) = true
        rw [beq_false_of_ne (by omega)]; rfl
      have e2 : Tr.upd (n :: r) k f = f n :: r := by
        show (if n.num == k then f n else n) :: _ = _
        rw [if_pos (beq_iff_eq.2 hk)]
        congr 1
        refine (List.map_congr_left fun m hm => ?_).trans (List.map_id r)
        have := h1 m hm
        show (if m.num == k then f m else m) = m
        rw [beq_false_of_ne (by omega)]; rfl
      rw [e2]
      show (f n).told :: List.filter (fun z => !(z.num == k)) (toldT (n :: r)) = _
      rw [e1]; rfl
    · have h3 := h1 n hm
      rw [if_neg (show ¬ k ≤ y.told.num by show ¬ k ≤ y.num; omega)]
      have hgr : Tr.get r k = some n := (get_iff h2).2 ⟨hm, hk⟩
      have e2 : Tr.upd (y :: r) k f = y :: Tr.upd r k f := by
        show (if y.num == k then f y else y) :: _ = _
        rw [beq_false_of_ne (by omega)]; rfl
      rw [e2]
      show y.told :: goPut (f n).told false (toldT r) = y.told :: toldT (Tr.upd r k f)
      rw [ih h2 hgr]
theorem put_add {T : Tr} {n0 : Nd} (hn : ∀ m ∈ T, m.num ≠ n0.num) : (Sorted T) → goPut n0.told false (toldT T) = toldT (Tr.add n0 T) := by
  intro hs
  induction T with
  | nil => rfl
  | cons y r ih =>
    obtain ⟨h1, h2⟩ := List.pairwise_cons.1 hs
    have hy := hn y (by simp)
    show (if n0.num ≤ y.num then _ else _) = toldT (if n0.num < y.num then _ else _)
    by_cases h : n0.num < y.num
    · rw [if_pos (by omega), if_pos h]
      show n0.told :: List.filter _ (toldT (y :: r)) = n0.told :: toldT (y :: r)
      congr 1
      refine List.filter_eq_self.2 fun z hz => ?_
      obtain ⟨m, hm, rfl⟩ := List.mem_map.1 hz
      have := hn m hm
      show (!(m.num == n0.num)) = true
      rw [beq_false_of_ne this]; rfl
    · rw [if_neg (by omega), if_neg h]
      show y.told :: goPut n0.told false (toldT r) = y.told :: toldT (Tr.add n0 r)
      rw [ih (fun m hm => hn m (by simp [hm])) h2]
theorem drop_told (T : Tr) (k : Int) : ((toldT T).filter fun y => !(y.num == k)) = toldT (T.drop k) := by
  unfold toldT Tr.drop
  rw [List.filter_map]; rfl
def goN (s : List UInt8) (k : Int) : Bool → Nm → Nm
  | true, l => delN s l
  | false, [] => [(s, k)]
  | false, y :: r => if bytesBefore s y.1 = true then (s, k) :: delN s (y :: r) else (if y.1 = s then [] else [y]) ++ goN s k false r
theorem goN_put (s : List UInt8) (k : Int) (l : Nm) : goN s k false l = putN s k l := by
  show _ = insG bytesBefore (s, k) (delN s l)
  induction l with
  | nil => rfl
  | cons y r ih =>
    show (if bytesBefore s y.1 = true then _ else _) = _
    by_cases h : y.1 = s
    · have e : delN s (y :: r) = delN s r := by
        unfold delN delG; rw [List.filter_cons, if_neg (by simp [h])]
      rw [e, if_neg (by rw [h, WideAt.bytes_irrefl]; simp), if_pos h, ih]; rfl
    · have e : delN s (y :: r) = y :: delN s r := by
        unfold delN delG; rw [List.filter_cons, if_pos (by simp [h])]
      rw [e, if_neg h]
      unfold insG
      by_cases hb : bytesBefore s y.1 = true
      · rw [if_pos hb, if_pos hb]
      · rw [if_neg hb, if_neg hb, ih]; rfl
section
variable {T : Tr} {d : Int → Nat} {off : Int → Int} {w : World} {t : Nat}
def nameF (s : List UInt8) (num : Int) : Nm → Nm := goN s num (num == 0)
set_option maxRecDepth 100000 in
set_option maxHeartbeats 8000000 in
theorem rnamed_any (h : RefAt w t (toldT T)) (hs : Sorted T) (hT : T.length ≤ 100) {k : Int} {n : Nd} (hg : T.get k = some n) (hd : n.dir = true) (hok : entsOk n.names = true) (h60 : n.names.length ≤ 60) (s : List UInt8) (hsl : s.length ≤ 16) (num : Int) (hnum : 0 ≤ num ∧ num ≤ 65535) (hok2 : entsOk (nameF s num n.names) = true) :
    Calls Tryz.prog 51 #[.pointer (some ⟨t, 0, none⟩), .int .i64 k, .string ⟨s.toArray⟩, .int .i64 num] w fun e w' => e = .returned (.tuple #[]) ∧ RefAt w' t (toldT (T.named k (nameF s num))) ∧ Mod (· = t) w w' := by
  have HR := Lib.hid h
  obtain ⟨a, cap, hb, hx⟩ := h.row
  rw [told_len] at hb
  have HB := Lib.hid hb
  have HX := Lib.hid hx
  obtain ⟨m, hm, hidx⟩ := idx_some hs hg
  have Hm := Lib.hid hm
  have Hidx := Lib.hid hidx
  have Hgk := Lib.hid hg
  have Hd := Lib.hid hd
  have Hok := Lib.hid hok
  have Hok2 := Lib.hid hok2
  have Hs := Lib.hid hs
  have hmT := (List.getElem?_eq_some_iff.1 hm).1
  have hmi : (m : Int) < T.length := by omega
  have hTi : (T.length : Int) ≤ 100 := by omega
  obtain ⟨lb, lo, rfl, hne, hc⟩ := hx m _ (told_at hm)
  have HC := Lib.hid hc
  have t0 : w.cell? ⟨t, 0, none⟩ = some (.slice (some ⟨lb, lo, none⟩) T.length cap) := blk_cell hb 0
  clear h hb hx hm hidx hg hd hok hok2 hs hc
  go_enter Tryz.func51, Tryz.ntmps51
  go_wp2_with fail
  have hlb0 : lb < w.heap.size := lt_of_cell (HC.out 0 _ rfl)
  have htl0 : t < w.heap.size := blk_lt HB.out
  have u0 : w.cell? ⟨lb, lo + m * 4, none⟩ = some (.int .i64 n.told.num) := HC.out 0 _ rfl
  have u1 : w.cell? ⟨lb, lo + m * 4 + 1, none⟩ = some (.bool n.told.dir) := HC.out 1 _ rfl
  have u2 : w.cell? ⟨lb, lo + m * 4 + 2, none⟩ = some (.int .i64 n.told.links) := HC.out 2 _ rfl
  have u3 : w.cell? ⟨lb, lo + m * 4 + 3, none⟩ = some (.string ⟨n.told.data.toArray⟩) := HC.out 3 _ rfl
  go_region_with (go_at_call 62
                  refine (rnode_any (l := toldT T) ?_ (by rw [told_len]; omega) k).mono ?_
                  · exact HR.out.keep (by first | exact (Mod.refl _ w).drew | exact ((Mod.refl _ w).drew).alloc _ | exact ((Mod.refl _ w).alloc _).drew)
                  rw [Hidx.out]
                  rintro e w1 ⟨rfl, hk1⟩
                  have HK1 : RowKit.Hid (Keep w w1) := Lib.hid (by first | exact ((Mod.refl _ w).drew).keep hk1 | exact (((Mod.refl _ w).drew).alloc _).keep hk1 | exact (((Mod.refl _ w).alloc _).drew).keep hk1)
                  have hlb1 : lb < w1.heap.size := Nat.lt_of_lt_of_le hlb0 HK1.out.size
                  try have hzb : World.blk w1 w.heap.size #[.int .i64 0, .bool false, .int .i64 0, .string ⟨#[]⟩] 41 := blk_mod hk1 (by first | exact blk_drew (blk_new _ _ _) | exact blk_new _ _ _) id
                  try have zz0 := blk_cell hzb 0
                  try have zz1 := blk_cell hzb 1
                  try have zz2 := blk_cell hzb 2
                  try have zz3 := blk_cell hzb 3
                  try have ff0 : w1.frozen? ⟨w.heap.size, 0, none⟩ = false := blk_free hzb _ rfl
                  try have ff1 : w1.frozen? ⟨w.heap.size, 1, none⟩ = false := blk_free hzb _ rfl
                  try have ff2 : w1.frozen? ⟨w.heap.size, 2, none⟩ = false := blk_free hzb _ rfl
                  try have ff3 : w1.frozen? ⟨w.heap.size, 3, none⟩ = false := blk_free hzb _ rfl
                  have htl1 : t < w1.heap.size := Nat.lt_of_lt_of_le htl0 HK1.out.size
                  have t1 : w1.cell? ⟨t, 0, none⟩ = some (.slice (some ⟨lb, lo, none⟩) T.length cap) := blk_cell (blk_mod HK1.out HB.out id) 0
                  have v0 : w1.cell? ⟨lb, lo + m * 4, none⟩ = some (.int .i64 n.told.num) := by have h := HC.out 0 _ rfl; rw [HK1.out.cell (p := ⟨lb, lo + m * 4, none⟩) (lt_of_cell h) id]; exact h
                  have v1 : w1.cell? ⟨lb, lo + m * 4 + 1, none⟩ = some (.bool n.told.dir) := by have h := HC.out 1 _ rfl; rw [HK1.out.cell (p := ⟨lb, lo + m * 4 + 1, none⟩) (lt_of_cell h) id]; exact h
                  have v2 : w1.cell? ⟨lb, lo + m * 4 + 2, none⟩ = some (.int .i64 n.told.links) := by have h := HC.out 2 _ rfl; rw [HK1.out.cell (p := ⟨lb, lo + m * 4 + 2, none⟩) (lt_of_cell h) id]; exact h
                  have v3 : w1.cell? ⟨lb, lo + m * 4 + 3, none⟩ = some (.string ⟨n.told.data.toArray⟩) := by have h := HC.out 3 _ rfl; rw [HK1.out.cell (p := ⟨lb, lo + m * 4 + 3, none⟩) (lt_of_cell h) id]; exact h)
  all_goals
    first
      | (have hBW := (set4_ok n.told hzb HK1.out (Nat.le_refl _)).1
         have hKW := (set4_ok n.told hzb HK1.out (Nat.le_refl _)).2.1
         have hwB : w.heap.size ≤ w.heap.size := Nat.le_refl _
         unfold set4 at hBW hKW
         unfold nodeCells at hBW
         generalize (((w1.setCell ⟨w.heap.size, 0, none⟩ (.int .i64 n.told.num)).setCell ⟨w.heap.size, 1, none⟩ (.bool n.told.dir)).setCell ⟨w.heap.size, 2, none⟩ (.int .i64 n.told.links)).setCell ⟨w.heap.size, 3, none⟩ (.string ⟨n.told.data.toArray⟩) = W at *
         obtain ⟨B, hB⟩ : ∃ B, w.heap.size = B := ⟨_, rfl⟩
         rw [hB] at hBW
         rw [hB]
         replace hwB : w.heap.size ≤ B := Nat.le_of_eq hB)
      | (have hBW := blk_new w1 (nodeCells n.told) 41
         have hKW := HK1.out.alloc (.cells (nodeCells n.told) 41)
         unfold nodeCells at hBW hKW
         generalize w1.alloc (.cells #[.int .i64 n.told.num, .bool n.told.dir, .int .i64 n.told.links, .string ⟨n.told.data.toArray⟩] 41) = W at *
         obtain ⟨B, hB⟩ : ∃ B, w1.heap.size = B := ⟨_, rfl⟩
         rw [hB] at hBW
         rw [hB]
         have hwB : w.heap.size ≤ B := by rw [← hB]; exact HK1.out.size)
    have HKW := Lib.hid hKW
    have HBW := Lib.hid hBW
    have e0 : W.cell? ⟨B, 0, none⟩ = some (.int .i64 n.told.num) := blk_cell hBW 0
    have e1 : W.cell? ⟨B, 1, none⟩ = some (.bool n.told.dir) := blk_cell hBW 1
    have e2 : W.cell? ⟨B, 2, none⟩ = some (.int .i64 n.told.links) := blk_cell hBW 2
    have e3 : W.cell? ⟨B, 3, none⟩ = some (.string ⟨n.told.data.toArray⟩) := blk_cell hBW 3
    have htd : n.told.dir = true := Hd.out
    have hdt : n.told.data = encE n.names := by unfold Nd.told; simp [Hd.out]
    rw [htd] at e1
    rw [hdt] at e3
    clear hKW hBW t0 u0 u1 u2 u3 t1 v0 v1 v2 v3
    go_wp2_with fail
    refine (rents_any n Hd.out Hok.out _ _ W).mono ?_
    rintro e w2 ⟨ev, rfl, ho, hk2⟩
    have hrow := rowF_own entC_len ho
    obtain ⟨ea, ecap, rfl, hex⟩ := hrow
    have HE := Lib.hid hex
    have HEb := Lib.hid (own_ltG ho)
    have HK2 := Lib.hid (HKW.out.keep hk2)
    have HB2 := Lib.hid (blk_mod hk2 HBW.out id)
    have hBl := blk_lt HBW.out
    have hs2 := hk2.size
    have Hdt := Lib.hid hdt
    clear ho hk2 hex e0 e1 e2 e3 htd hdt
    go_wp2_with fail
    have HK0 : RowKit.Hid (Keep w2 (w2.alloc (.cells #[] 98))) := Lib.hid ((Mod.refl _ w2).alloc _)
    have HV0 : RowKit.Hid (OwnF entC 2 98 (w2.alloc (.cells #[] 98)) w2.heap.size (.slice (some ⟨w2.heap.size, 0, none⟩) 0 0) []) := Lib.hid ⟨by simp, .inr ⟨_, 0, #[], rfl, Nat.le_refl _, blk_new _ _ _, Nat.le_refl _, by simp, by simp, by simp⟩⟩
    have hs0 : w2.heap.size ≤ (w2.alloc (.cells #[] 98)).heap.size := by simp
    generalize (w2.alloc (.cells #[] 98)) = w0 at *
    obtain ⟨ob, hob⟩ : ∃ ob, w2.heap.size = ob := ⟨_, rfl⟩
    have Hob := Lib.hid hob
    rw [hob] at HV0 hs0
    rw [hob]
    have h60i : (n.names.length : Int) ≤ 60 := by omega
    clear hob
    go_loopw [10, 11, 12] (fun v dv iv wr => ∃ (i : Nat) (acc : Nm) (dn : Bool), i ≤ n.names.length ∧ iv = .int .i64 (i : Int) ∧ dv = .bool dn ∧ Keep w2 wr ∧ ob ≤ wr.heap.size ∧ OwnF entC 2 98 wr ob v acc ∧ acc.length ≤ i + 1 ∧ RowKit.Hid (dn = false → acc.length ≤ i) ∧ RowKit.Hid (acc ++ goN s num dn (n.names.drop i) = nameF s num n.names)) (fun _ _ iv _ => n.names.length - (intOf iv).toNat)
    case atStart => exact ⟨0, [], num == 0, by omega, rfl, rfl, HK0.out, hs0, HV0.out, by simp, Lib.hid (fun _ => by simp), Lib.hid rfl⟩
    case round =>
      clear HK0 HV0 hs0
      obtain ⟨i, acc, dn, hi, rfl, rfl, hK, hsc, hV, hal, HL, Hg⟩ := hrel
      have HKc := Lib.hid hK
      have HVc := Lib.hid hV
      clear hK hV
      by_cases hlt : i < n.names.length
      · obtain ⟨y, hy⟩ : ∃ y, n.names[i]? = some y := ⟨_, List.getElem?_eq_getElem hlt⟩
        obtain ⟨eb, eo, rfl, hce⟩ := HE.out i y hy
        have HEc := Lib.hid hce
        have hd : n.names.drop i = y :: n.names.drop (i + 1) := by
          rw [List.drop_eq_getElem_cons hlt]
          congr 1
          exact Option.some.inj ((List.getElem?_eq_getElem hlt).symm.trans hy)
        rw [hd] at Hg
        have e0a : World.cell? wr ⟨eb, eo + i * 2, none⟩ = some (.string ⟨y.1.toArray⟩) := by have h := HEc.out 0 _ rfl; rw [HKc.out.cell (p := ⟨eb, eo + i * 2, none⟩) (lt_of_cell h) id]; exact h
        have e1a : World.cell? wr ⟨eb, eo + i * 2 + 1, none⟩ = some (.int .i64 y.2) := by have h := HEc.out 1 _ rfl; rw [HKc.out.cell (p := ⟨eb, eo + i * 2 + 1, none⟩) (lt_of_cell h) id]; exact h
        have hil : (i : Int) < n.names.length := by omega
        clear hd hy hce
        cases dn with
        | true =>
          by_cases hq : y.1 = s
          · have hqb : (y.1 == s) = true := beq_iff_eq.2 hq
            have Hg2 : RowKit.Hid (acc ++ goN s num true (n.names.drop (i + 1)) = nameF s num n.names) := Lib.hid (by
              rw [← Hg.out]; show _ = acc ++ delN s (y :: _)
              unfold delN delG; rw [List.filter_cons, if_neg (by simp [hq])]; simp [goN, delG])
            clear hq Hg
            go_wp2_with fail
            exact ⟨⟨i + 1, acc, true, by omega, by go_num, rfl, HKc.out, hsc, HVc.out, by first | omega | (simp only [List.length_append, List.length_singleton]; omega), Lib.hid (fun h => by cases h), Hg2⟩, by simp [intOf]; omega⟩
          · have hqb : (y.1 == s) = false := beq_false_of_ne hq
            have Hg2 : RowKit.Hid ((acc ++ [y]) ++ goN s num true (n.names.drop (i + 1)) = nameF s num n.names) := Lib.hid (by
              rw [← Hg.out]; show _ = acc ++ delN s (y :: _)
              unfold delN delG; rw [List.filter_cons, if_pos (by simp [hq])]
              simp [goN, delG])
            clear hq Hg
            obtain ⟨v5, w5, hr5, ho5, hk5, hm5⟩ := append_struct (f := entC) (x := y) (P := Tryz.prog) Tryz.underlying73 info_ent rfl (by decide) entC_len ob u10 (acc) wr w2 HVc.out (entC_one y) (by unfold maxLen; first | omega | (simp only [List.length_append, List.length_singleton]; omega)) (by first | omega | (simp only [List.length_append, List.length_singleton]; omega)) hsc HKc.out (Nat.le_of_eq Hob.out)
            have Hr5 := Lib.hid hr5
            have HV5 := Lib.hid ho5
            have HK5 := Lib.hid hk5
            have sz5 : ob ≤ w5.heap.size := Nat.le_trans hsc hm5.size
            clear hr5 ho5 hk5 hm5
            go_wp2_with ((at_builtin; refine wpList_append_run Hr5.out rfl rfl rfl rfl ?_))
            exact ⟨⟨i + 1, acc ++ [y], true, by omega, by go_num, rfl, HK5.out, sz5, HV5.out, by first | omega | (simp only [List.length_append, List.length_singleton]; omega), Lib.hid (fun h => by cases h), Hg2⟩, by simp [intOf]; omega⟩
        | false =>
          have hali := HL.out rfl
          have hgo : acc ++ (if bytesBefore s y.1 = true then (s, num) :: delN s (y :: n.names.drop (i + 1)) else (if y.1 = s then [] else [y]) ++ goN s num false (n.names.drop (i + 1))) = nameF s num n.names := Hg.out
          have hgt := gtr_before y.1 s
          cases hbb : bytesBefore s y.1 with
          | true =>
            rw [hbb] at hgt
            have hq : ¬ y.1 = s := fun e => by rw [e, WideAt.bytes_irrefl] at hbb; cases hbb
            have hqb : (y.1 == s) = false := beq_false_of_ne hq
            have hlt9 : Op.bytesLess y.1 s = false := by
              rw [hqb, Bool.or_false] at hgt; simpa using hgt
            have Hg2 : RowKit.Hid (((acc ++ [(s, num)]) ++ [y]) ++ goN s num true (n.names.drop (i + 1)) = nameF s num n.names) := Lib.hid (by
              rw [← hgo, if_pos hbb]
              unfold delN delG; rw [List.filter_cons, if_pos (by simp [hq])]
              simp [goN, delG])
            clear hq Hg hgo hbb hgt
            obtain ⟨v7, w7, hr7, ho7, hk7, hm7⟩ := append_struct (f := entC) (x := (s, num)) (P := Tryz.prog) Tryz.underlying73 info_ent rfl (by decide) entC_len ob u10 (acc) wr w2 HVc.out (entC_one (s, num)) (by unfold maxLen; first | omega | (simp only [List.length_append, List.length_singleton]; omega)) (by first | omega | (simp only [List.length_append, List.length_singleton]; omega)) hsc HKc.out (Nat.le_of_eq Hob.out)
            have Hr7 := Lib.hid hr7
            have HV7 := Lib.hid ho7
            have HK7 := Lib.hid hk7
            have sz7 : ob ≤ w7.heap.size := Nat.le_trans hsc hm7.size
            clear hr7 ho7 hk7 hm7
            have e0b : World.cell? w7 ⟨eb, eo + i * 2, none⟩ = some (.string ⟨y.1.toArray⟩) := by have h := HEc.out 0 _ rfl; rw [HK7.out.cell (p := ⟨eb, eo + i * 2, none⟩) (lt_of_cell h) id]; exact h
            have e1b : World.cell? w7 ⟨eb, eo + i * 2 + 1, none⟩ = some (.int .i64 y.2) := by have h := HEc.out 1 _ rfl; rw [HK7.out.cell (p := ⟨eb, eo + i * 2 + 1, none⟩) (lt_of_cell h) id]; exact h
            obtain ⟨v5, w5, hr5, ho5, hk5, hm5⟩ := append_struct (f := entC) (x := y) (P := Tryz.prog) Tryz.underlying73 info_ent rfl (by decide) entC_len ob v7 (acc ++ [(s, num)]) w7 w2 HV7.out (entC_one y) (by unfold maxLen; first | omega | (simp only [List.length_append, List.length_singleton]; omega)) (by first | omega | (simp only [List.length_append, List.length_singleton]; omega)) sz7 HK7.out (Nat.le_of_eq Hob.out)
            have Hr5 := Lib.hid hr5
            have HV5 := Lib.hid ho5
            have HK5 := Lib.hid hk5
            have sz5 : ob ≤ w5.heap.size := Nat.le_trans sz7 hm5.size
            clear hr5 ho5 hk5 hm5
            go_wp2_with (first
              | (at_builtin; refine wpList_append_run Hr7.out rfl rfl rfl rfl ?_)
              | (at_builtin; refine wpList_append_run Hr5.out rfl rfl rfl rfl ?_))
            exact ⟨⟨i + 1, (acc ++ [(s, num)]) ++ [y], true, by omega, by go_num, rfl, HK5.out, sz5, HV5.out, by first | omega | (simp only [List.length_append, List.length_singleton]; omega), Lib.hid (fun h => by cases h), Hg2⟩, by simp [intOf]; omega⟩
          | false =>
            rw [hbb] at hgt
            by_cases hq : y.1 = s
            · have hqb : (y.1 == s) = true := beq_iff_eq.2 hq
              have Hg2 : RowKit.Hid (acc ++ goN s num false (n.names.drop (i + 1)) = nameF s num n.names) := Lib.hid (by
                rw [← hgo, if_neg (by rw [hbb]; simp), if_pos hq]; rfl)
              clear hq Hg hgo hbb
              go_wp2_with fail
              exact ⟨⟨i + 1, acc, false, by omega, by go_num, rfl, HKc.out, hsc, HVc.out, by first | omega | (simp only [List.length_append, List.length_singleton]; omega), Lib.hid (fun _ => by first | omega | (simp only [List.length_append, List.length_singleton]; omega)), Hg2⟩, by simp [intOf]; omega⟩
            · have hqb : (y.1 == s) = false := beq_false_of_ne hq
              have hlt9 : Op.bytesLess y.1 s = true := by
                rw [hqb, Bool.or_false] at hgt; simpa using hgt
              have Hg2 : RowKit.Hid ((acc ++ [y]) ++ goN s num false (n.names.drop (i + 1)) = nameF s num n.names) := Lib.hid (by
                rw [← hgo, if_neg (by rw [hbb]; simp), if_neg hq]; simp)
              clear hq Hg hgo hbb hgt
              obtain ⟨v5, w5, hr5, ho5, hk5, hm5⟩ := append_struct (f := entC) (x := y) (P := Tryz.prog) Tryz.underlying73 info_ent rfl (by decide) entC_len ob u10 (acc) wr w2 HVc.out (entC_one y) (by unfold maxLen; first | omega | (simp only [List.length_append, List.length_singleton]; omega)) (by first | omega | (simp only [List.length_append, List.length_singleton]; omega)) hsc HKc.out (Nat.le_of_eq Hob.out)
              have Hr5 := Lib.hid hr5
              have HV5 := Lib.hid ho5
              have HK5 := Lib.hid hk5
              have sz5 : ob ≤ w5.heap.size := Nat.le_trans hsc hm5.size
              clear hr5 ho5 hk5 hm5
              go_wp2_with ((at_builtin; refine wpList_append_run Hr5.out rfl rfl rfl rfl ?_))
              exact ⟨⟨i + 1, acc ++ [y], false, by omega, by go_num, rfl, HK5.out, sz5, HV5.out, by first | omega | (simp only [List.length_append, List.length_singleton]; omega), Lib.hid (fun _ => by first | omega | (simp only [List.length_append, List.length_singleton]; omega)), Hg2⟩, by simp [intOf]; omega⟩
      · obtain rfl : i = n.names.length := by omega
        have hd : n.names.drop n.names.length = [] := List.drop_length
        rw [hd] at Hg
        clear hlt hd
        cases dn with
        | true =>
          have He : RowKit.Hid (acc = nameF s num n.names) := Lib.hid (by rw [← Hg.out]; simp [goN, delG])
          clear Hg
          go_wp2_with fail
          refine (rentries_ok (nameF s num n.names) u10 wr (by rw [← He.out]; exact rowF_own entC_len HVc.out) Hok2.out).mono ?_
          rintro e w8 ⟨rfl, hk8⟩
          have HK8 := Lib.hid ((HK2.out.keep HKc.out).keep hk8)
          have HB8 := Lib.hid (blk_mod (HKc.out.keep hk8) HB2.out id)
          have c3 : w8.cell? ⟨B, 3, none⟩ = some (.string ⟨n.told.data.toArray⟩) := blk_cell HB8.out 3
          have f3 : w8.frozen? ⟨B, 3, none⟩ = false := blk_free HB8.out _ rfl
          have hB9 := blk_set HB8.out 3 (.string ⟨(encE (nameF s num n.names)).toArray⟩)
          have hK9 : Keep w (w8.setCell ⟨B, 3, none⟩ (.string ⟨(encE (nameF s num n.names)).toArray⟩)) := HK8.out.setCell (p := ⟨B, 3, none⟩) (.inr hwB) _
          have g0 : (w8.setCell ⟨B, 3, none⟩ (.string ⟨(encE (nameF s num n.names)).toArray⟩)).cell? ⟨B, 0, none⟩ = some (.int .i64 n.told.num) := blk_cell hB9 0
          have g1 : (w8.setCell ⟨B, 3, none⟩ (.string ⟨(encE (nameF s num n.names)).toArray⟩)).cell? ⟨B, 1, none⟩ = some (.bool n.told.dir) := blk_cell hB9 1
          have g2 : (w8.setCell ⟨B, 3, none⟩ (.string ⟨(encE (nameF s num n.names)).toArray⟩)).cell? ⟨B, 2, none⟩ = some (.int .i64 n.told.links) := blk_cell hB9 2
          have g3 : (w8.setCell ⟨B, 3, none⟩ (.string ⟨(encE (nameF s num n.names)).toArray⟩)).cell? ⟨B, 3, none⟩ = some (.string ⟨(encE (nameF s num n.names)).toArray⟩) := blk_cell hB9 3
          have HK9 := Lib.hid hK9
          clear hk8 hB9 hK9
          go_wp2_with fail
          refine (rput_any (HR.out.keep HK9.out) (by rw [told_len]; omega) ⟨n.told.num, n.told.dir, n.told.links, encE (nameF s num n.names)⟩).mono ?_
          rintro e w10 ⟨rfl, h10, hm10⟩
          have H10 := Lib.hid h10
          have HM10 : RowKit.Hid (Mod (· = t) w w10) := Lib.hid ((HK9.out.mono (fun _ _ h => h.elim)).trans hm10 (fun _ _ h => h))
          have Hfin : RowKit.Hid (goPut ⟨n.told.num, n.told.dir, n.told.links, encE (nameF s num n.names)⟩ false (toldT T) = toldT (T.named k (nameF s num))) := Lib.hid (by
            have e : (⟨n.told.num, n.told.dir, n.told.links, encE (nameF s num n.names)⟩ : Nt) = ({ n with names := nameF s num n.names } : Nd).told := by unfold Nd.told; simp [Hd.out]
            rw [e]
            exact put_upd (f := fun n => { n with names := nameF s num n.names }) Hs.out Hgk.out ((get_iff Hs.out).1 Hgk.out).2)
          clear h10 hm10 g0 g1 g2 g3 c3 f3
          go_wp2_with fail
          go_end0
          exact ⟨rfl, by rw [← Hfin.out]; exact H10.out, HM10.out⟩
        | false =>
          have He : RowKit.Hid (acc ++ [(s, num)] = nameF s num n.names) := Lib.hid (by rw [← Hg.out]; rfl)
          have hali := HL.out rfl
          clear Hg
          obtain ⟨v7, w7, hr7, ho7, hk7, hm7⟩ := append_struct (f := entC) (x := (s, num)) (P := Tryz.prog) Tryz.underlying73 info_ent rfl (by decide) entC_len ob u10 acc wr w2 HVc.out (entC_one (s, num)) (by unfold maxLen; omega) (by omega) hsc HKc.out (Nat.le_of_eq Hob.out)
          have Hr7 := Lib.hid hr7
          have HV7 := Lib.hid ho7
          have HK7 := Lib.hid hk7
          clear hr7 ho7 hk7 hm7
          go_wp2_with ((at_builtin; refine wpList_append_run Hr7.out rfl rfl rfl rfl ?_))
          refine (rentries_ok (nameF s num n.names) v7 w7 (by rw [← He.out]; exact rowF_own entC_len HV7.out) Hok2.out).mono ?_
          rintro e w8 ⟨rfl, hk8⟩
          have HK8 := Lib.hid ((HK2.out.keep HK7.out).keep hk8)
          have HB8 := Lib.hid (blk_mod (HK7.out.keep hk8) HB2.out id)
          have c3 : w8.cell? ⟨B, 3, none⟩ = some (.string ⟨n.told.data.toArray⟩) := blk_cell HB8.out 3
          have f3 : w8.frozen? ⟨B, 3, none⟩ = false := blk_free HB8.out _ rfl
          have hB9 := blk_set HB8.out 3 (.string ⟨(encE (nameF s num n.names)).toArray⟩)
          have hK9 : Keep w (w8.setCell ⟨B, 3, none⟩ (.string ⟨(encE (nameF s num n.names)).toArray⟩)) := HK8.out.setCell (p := ⟨B, 3, none⟩) (.inr hwB) _
          have g0 : (w8.setCell ⟨B, 3, none⟩ (.string ⟨(encE (nameF s num n.names)).toArray⟩)).cell? ⟨B, 0, none⟩ = some (.int .i64 n.told.num) := blk_cell hB9 0
          have g1 : (w8.setCell ⟨B, 3, none⟩ (.string ⟨(encE (nameF s num n.names)).toArray⟩)).cell? ⟨B, 1, none⟩ = some (.bool n.told.dir) := blk_cell hB9 1
          have g2 : (w8.setCell ⟨B, 3, none⟩ (.string ⟨(encE (nameF s num n.names)).toArray⟩)).cell? ⟨B, 2, none⟩ = some (.int .i64 n.told.links) := blk_cell hB9 2
          have g3 : (w8.setCell ⟨B, 3, none⟩ (.string ⟨(encE (nameF s num n.names)).toArray⟩)).cell? ⟨B, 3, none⟩ = some (.string ⟨(encE (nameF s num n.names)).toArray⟩) := blk_cell hB9 3
          have HK9 := Lib.hid hK9
          clear hk8 hB9 hK9
          go_wp2_with fail
          refine (rput_any (HR.out.keep HK9.out) (by rw [told_len]; omega) ⟨n.told.num, n.told.dir, n.told.links, encE (nameF s num n.names)⟩).mono ?_
          rintro e w10 ⟨rfl, h10, hm10⟩
          have H10 := Lib.hid h10
          have HM10 : RowKit.Hid (Mod (· = t) w w10) := Lib.hid ((HK9.out.mono (fun _ _ h => h.elim)).trans hm10 (fun _ _ h => h))
          have Hfin : RowKit.Hid (goPut ⟨n.told.num, n.told.dir, n.told.links, encE (nameF s num n.names)⟩ false (toldT T) = toldT (T.named k (nameF s num))) := Lib.hid (by
            have e : (⟨n.told.num, n.told.dir, n.told.links, encE (nameF s num n.names)⟩ : Nt) = ({ n with names := nameF s num n.names } : Nd).told := by unfold Nd.told; simp [Hd.out]
            rw [e]
            exact put_upd (f := fun n => { n with names := nameF s num n.names }) Hs.out Hgk.out ((get_iff Hs.out).1 Hgk.out).2)
          clear h10 hm10 g0 g1 g2 g3 c3 f3
          go_wp2_with fail
          go_end0
          exact ⟨rfl, by rw [← Hfin.out]; exact H10.out, HM10.out⟩
end
end Go.Proofs.YthmpblccplphfaaGreatDoor
