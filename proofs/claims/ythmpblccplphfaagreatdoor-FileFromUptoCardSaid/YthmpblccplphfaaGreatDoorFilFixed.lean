/-
  Which commands are ok, kind by kind; no program here.
  stillagelaw14.fixed: what the document fixes.
-/
import Derived.Test.YthmpblccplphfaaGreatDoorFilX
import Derived.Test.YthmpblccplphfaaGreatDoorFilIn
import Derived.Test.YthmpblccplphfaaGreatDoorSameStrs
namespace Go.Proofs.YthmpblccplphfaaGreatDoor
section
open Go.RowKit
theorem k_lit (k : Nat) (h : k < 9) (p d : List UInt8) (n : Int) (x : List UInt8) : (⟨(k : Int), p, d, n, x⟩ : Cmd).k = k := k_of k h _ rfl
theorem beq_nil_comm (l : List UInt8) : (([] : List UInt8) == l) = (l == []) := by cases l <;> rfl
theorem beq_zero_comm (n : Int) : ((0 : Int) == n) = (n == 0) := by rw [Bool.eq_iff_iff, beq_iff_eq, beq_iff_eq]; exact eq_comm
def fitAt (n : Int) : Bool := decide (0 ≤ n) && decide (n ≤ 16384)
theorem atoi_fit {n : Int} (h : fitAt n = true) : atoiV (Lib.itoa n) = n := by
  simp only [fitAt, Bool.and_eq_true, decide_eq_true_eq] at h
  exact atoi_itoa n h.1 (by omega)
theorem ok_plain (k : Nat) (hk : k < 9) (hf : fieldsOf k = [1]) (p d : List UInt8) (n : Int) (x : List UInt8) : (⟨(k : Int), p, d, n, x⟩ : Cmd).ok = ((pathOf p).isSome && ((d == []) && ((n == 0) && (x == [])))) := by
  rw [Cmd.ok, k_lit k hk, hf]
  simp only [hk, decide_true, Bool.true_and, List.all_cons, List.all_nil, Bool.and_true, Cmd.fieldOk, Cmd.bare, List.foldl_cons, List.foldl_nil, Cmd.take, Cmd.fieldText, Cmd.eqB, beq_self_eq_true, beq_nil_comm, beq_zero_comm]
theorem ok_name (k : Nat) (hk : k < 9) (hf : fieldsOf k = [5]) (p d : List UInt8) (n : Int) (x : List UInt8) : (⟨(k : Int), p, d, n, x⟩ : Cmd).ok = (nameOk p && ((d == []) && ((n == 0) && (x == [])))) := by
  rw [Cmd.ok, k_lit k hk, hf]
  simp only [hk, decide_true, Bool.true_and, List.all_cons, List.all_nil, Bool.and_true, Cmd.fieldOk, Cmd.bare, List.foldl_cons, List.foldl_nil, Cmd.take, Cmd.fieldText, Cmd.eqB, beq_self_eq_true, beq_nil_comm, beq_zero_comm]
theorem ok_two (k : Nat) (hk : k < 9) (hf : fieldsOf k = [1, 2]) (p d : List UInt8) (n : Int) (x : List UInt8) : (⟨(k : Int), p, d, n, x⟩ : Cmd).ok = ((pathOf p).isSome && ((pathOf d).isSome && ((n == 0) && (x == [])))) := by
  rw [Cmd.ok, k_lit k hk, hf]
  simp only [hk, decide_true, Bool.true_and, List.all_cons, List.all_nil, Bool.and_true, Cmd.fieldOk, Cmd.bare, List.foldl_cons, List.foldl_nil, Cmd.take, Cmd.fieldText, Cmd.eqB, beq_self_eq_true, beq_nil_comm, beq_zero_comm]
  cases (pathOf p).isSome <;> cases (pathOf d).isSome <;> rfl
theorem ok_cut (p d : List UInt8) (n : Int) (x : List UInt8) : (⟨3, p, d, n, x⟩ : Cmd).ok = ((pathOf p).isSome && (fitAt n && ((d == []) && (x == [])))) := by
  have h := k_lit 3 (by omega) p d n x
  rw [show ((3 : Nat) : Int) = 3 from rfl] at h
  rw [Cmd.ok, h, show fieldsOf 3 = [1, 3] from rfl]
  simp only [decide_true, Bool.true_and, List.all_cons, List.all_nil, Bool.and_true, Cmd.fieldOk, Cmd.bare, List.foldl_cons, List.foldl_nil, Cmd.take, Cmd.fieldText, Cmd.eqB, beq_self_eq_true, beq_nil_comm, Nat.reduceLT]
  rw [show (decide (0 ≤ n) && decide (n ≤ 16384)) = fitAt n from rfl]
  rcases hf : fitAt n with _ | _
  · cases (pathOf p).isSome <;> rfl
  · rw [atoi_fit hf, beq_self_eq_true]
    cases (pathOf p).isSome <;> cases (d == []) <;> rfl
theorem ok_write (p d : List UInt8) (n : Int) (x : List UInt8) : (⟨2, p, d, n, x⟩ : Cmd).ok = ((pathOf p).isSome && (fitAt n && (decide ((x.length : Int) ≤ 512) && (d == [])))) := by
  have h := k_lit 2 (by omega) p d n x
  rw [show ((2 : Nat) : Int) = 2 from rfl] at h
  have e : decide ((x.length : Int) ≤ 512) = decide (x.length ≤ 512) := by congr 1; exact propext (by omega)
  rw [Cmd.ok, h, show fieldsOf 2 = [1, 3, 4] from rfl, e]
  simp only [decide_true, Bool.true_and, List.all_cons, List.all_nil, Bool.and_true, Cmd.fieldOk, Cmd.bare, List.foldl_cons, List.foldl_nil, Cmd.take, Cmd.fieldText, Cmd.eqB, beq_self_eq_true, beq_nil_comm, Nat.reduceLT, unhexed_hexed]
  rw [show (decide (0 ≤ n) && decide (n ≤ 16384)) = fitAt n from rfl]
  rcases hf : fitAt n with _ | _
  · cases (pathOf p).isSome <;> rfl
  · rw [atoi_fit hf, beq_self_eq_true]
    cases (pathOf p).isSome <;> cases decide (x.length ≤ 512) <;> cases (d == []) <;> rfl
/-! ### what is done, kind by kind -/
theorem do_bad {T : Tr} {c : Cmd} (h : c.ok = false) : doT T c = (T, 1) := by rw [doT, if_pos h]
theorem do_make {T : Tr} {c : Cmd} (h : c.ok = true) (hk : c.kind = 0 ∨ c.kind = 1) : doT T c = makesT T c := by rw [doT, if_neg (by simp [h]), if_pos hk]
theorem do_write {T : Tr} {c : Cmd} (h : c.ok = true) (hk : c.kind = 2 ∨ c.kind = 3) : doT T c = writesT T c := by
  rw [doT, if_neg (by simp [h]), if_neg (by omega), if_pos hk]
theorem do_link {T : Tr} {c : Cmd} (h : c.ok = true) (hk : c.kind = 4) : doT T c = linksT T c := by
  rw [doT, if_neg (by simp [h]), if_neg (by omega), if_neg (by omega), if_pos hk]
theorem do_rename {T : Tr} {c : Cmd} (h : c.ok = true) (hk : c.kind = 5) : doT T c = renamesT T c := by
  rw [doT, if_neg (by simp [h]), if_neg (by omega), if_neg (by omega), if_neg (by omega), if_pos hk]
theorem do_remove {T : Tr} {c : Cmd} (h : c.ok = true) (hk : c.kind = 6) : doT T c = removesT T c := by
  rw [doT, if_neg (by simp [h]), if_neg (by omega), if_neg (by omega), if_neg (by omega), if_neg (by omega), if_pos hk]
theorem do_other {T : Tr} {c : Cmd} (hk : 6 < c.kind) : doT T c = (T, 1) := by
  rw [doT]
  split
  · rfl
  · rw [if_neg (by omega), if_neg (by omega), if_neg (by omega), if_neg (by omega), if_neg (by omega)]
theorem okc_make (p : List UInt8) (h : (pathOf p).isSome = true) : (⟨0, p, [], 0, []⟩ : Cmd).ok = true := (ok_plain 0 (by omega) rfl p [] 0 []).trans (by rw [h]; rfl)
theorem okc_link (p q : List UInt8) (h : (pathOf p).isSome = true) (h2 : (pathOf q).isSome = true) : (⟨4, p, q, 0, []⟩ : Cmd).ok = true := (ok_two 4 (by omega) rfl p q 0 []).trans (by rw [h, h2]; rfl)
theorem okc_rename (p q : List UInt8) (h : (pathOf p).isSome = true) (h2 : (pathOf q).isSome = true) : (⟨5, p, q, 0, []⟩ : Cmd).ok = true := (ok_two 5 (by omega) rfl p q 0 []).trans (by rw [h, h2]; rfl)
theorem okc_remove (p : List UInt8) (h : (pathOf p).isSome = true) : (⟨6, p, [], 0, []⟩ : Cmd).ok = true := (ok_plain 6 (by omega) rfl p [] 0 []).trans (by rw [h]; rfl)
theorem okc_write (p : List UInt8) (n : Int) (x : List UInt8) (h : (pathOf p).isSome = true) (hn : 0 ≤ n ∧ n ≤ 16384) (hx : x.length ≤ 512) : (⟨2, p, [], n, x⟩ : Cmd).ok = true :=
  (ok_write p [] n x).trans (by rw [h, show fitAt n = true by simp [fitAt, hn], show decide ((x.length : Int) ≤ 512) = true from decide_eq_true (by omega)]; rfl)
theorem okc_cut (p : List UInt8) (n : Int) (h : (pathOf p).isSome = true) (hn : 0 ≤ n ∧ n ≤ 16384) : (⟨3, p, [], n, []⟩ : Cmd).ok = true :=
  (ok_cut p [] n []).trans (by rw [h, show fitAt n = true by simp [fitAt, hn]]; rfl)
theorem fit_0 : fitAt 0 = true := by decide
/-! ### the calls that the document fixes -/
def fx1 : Tr := [⟨1, true, 1, [], [([97], 2)]⟩, ⟨2, false, 1, [], []⟩]
def fx2 : Tr := [⟨1, true, 1, [], [([97], 2), ([98], 2)]⟩, ⟨2, false, 2, [], []⟩]
def fx3 : Tr := [⟨1, true, 1, [], [([97], 2), ([98], 2)]⟩, ⟨2, false, 2, [120], []⟩]
def fx4 : Tr := [⟨1, true, 1, [], [([98], 2)]⟩, ⟨2, false, 1, [120], []⟩]
theorem path_fa : pathOf [47, 97] = some [[97]] := by decide +kernel
theorem path_fb : pathOf [47, 98] = some [[98]] := by decide +kernel
theorem some_fa : (pathOf [47, 97]).isSome = true := by rw [path_fa]; rfl
theorem some_fb : (pathOf [47, 98]).isSome = true := by rw [path_fb]; rfl
theorem fx_1 : doT Tr.new ⟨0, [47, 97], [], 0, []⟩ = (fx1, 0) := by
  rw [do_make (okc_make _ some_fa) (.inl rfl)]
  kernel_rfl
theorem fx_2 : doT fx1 ⟨4, [47, 97], [47, 98], 0, []⟩ = (fx2, 0) := by
  rw [do_link (okc_link _ _ some_fa some_fb) rfl]
  kernel_rfl
theorem fx_3 : doT fx2 ⟨2, [47, 98], [], 0, [120]⟩ = (fx3, 0) := by
  rw [do_write (okc_write _ _ _ some_fb (by decide) (by decide)) (.inl rfl)]
  kernel_rfl
theorem fx_4 : doT fx3 ⟨6, [47, 97], [], 0, []⟩ = (fx4, 0) := by
  rw [do_remove (okc_remove _ some_fa) rfl]
  kernel_rfl
theorem fx_5 : doT fx4 ⟨7, [115], [], 0, []⟩ = (fx4, 1) := do_other (by decide)
end
section
open Go.RowKit
theorem fx_get : getV (nodeT fx4 [47, 98]) = .tuple #[nodeV ⟨2, false, 1, [120]⟩, .int .i64 0] := by kernel_rfl
theorem fx_gno : getV (nodeT fx4 [98]) = .tuple #[nodeV ⟨0, false, 0, []⟩, .int .i64 140] := by kernel_rfl
theorem fx_read : readV (readR (nodeT fx3 [47, 97]) 0 9) = .tuple #[.string ⟨#[120]⟩, .int .i64 0] := by kernel_rfl
theorem fx_list : listR (nodeT fx4 [47]) = ([[98]], 0) := by kernel_rfl
set_option maxRecDepth 100000 in
set_option maxHeartbeats 4000000 in
theorem fixed_any (w : World) (he : Env w) :
    Calls Tryz.prog 13 #[] w fun e w' => e = .returned (.bool true) ∧ Keep w w' := by
  have He := Lib.hid he
  clear he
  go_enter Tryz.func13, Tryz.ntmps13
  go_wp2_with fail
  refine (new_in w w (Mod.refl _ _)).mono ?_
  rintro e w1 ⟨p, ro, rfl, h1, _, _⟩
  have H1 := Lib.hid h1
  clear h1
  go_wp2_with fail
  refine (do_in H1.out He.out ⟨0, [47, 97], [], 0, []⟩ ⟨by decide, by decide, by decide, by decide⟩).mono ?_
  rw [fx_1]
  rintro e w2 ⟨rfl, r2, h2, _, _⟩
  have H2 := Lib.hid h2
  clear h2
  go_wp2_with fail
  refine (do_in H2.out He.out ⟨4, [47, 97], [47, 98], 0, []⟩ ⟨by decide, by decide, by decide, by decide⟩).mono ?_
  rw [fx_2]
  rintro e w3 ⟨rfl, r3, h3, _, _⟩
  have H3 := Lib.hid h3
  clear h3
  go_wp2_with fail
  refine (do_in H3.out He.out ⟨2, [47, 98], [], 0, [120]⟩ ⟨by decide, by decide, by decide, by decide⟩).mono ?_
  rw [fx_3]
  rintro e w4 ⟨rfl, r4, h4, _, _⟩
  have H4 := Lib.hid h4
  clear h4
  go_wp2_with fail
  refine (read_in H4.out He.out [47, 97] (by decide) 0 9 (by decide) (by decide)).mono ?_
  rw [fx_read]
  rintro e w5 ⟨rfl, hk5⟩
  have H5 := Lib.hid (H4.out.kept hk5)
  clear hk5
  go_wp2_with fail
  refine (do_in H5.out He.out ⟨6, [47, 97], [], 0, []⟩ ⟨by decide, by decide, by decide, by decide⟩).mono ?_
  rw [fx_4]
  rintro e w6 ⟨rfl, r6, h6, _, _⟩
  have H6 := Lib.hid h6
  clear h6
  go_wp2_with fail
  refine (get_in H6.out He.out [47, 98] (by decide)).mono ?_
  rw [fx_get]
  rintro e w7 ⟨rfl, hk7⟩
  have H7 := Lib.hid (H6.out.kept hk7)
  clear hk7
  go_wp2_with fail
  have HB8 : RowKit.Hid (World.blk (w7.alloc (.cells #[.int .i64 2, .bool false, .int .i64 1, .string ⟨#[120]⟩] 41)) w7.heap.size #[.int .i64 2, .bool false, .int .i64 1, .string ⟨#[120]⟩] 41) := Lib.hid (blk_new _ _ _)
  have hk8 : Keep w7 (w7.alloc (.cells #[.int .i64 2, .bool false, .int .i64 1, .string ⟨#[120]⟩] 41)) := (Mod.refl _ w7).alloc _
  have H8 := Lib.hid (H7.out.kept hk8)
  have Hr8 : RowKit.Hid (r6 w7.heap.size = .none) := Lib.hid (H7.out.old (Nat.le_refl _))
  clear hk8 H7
  generalize w7.alloc (.cells #[.int .i64 2, .bool false, .int .i64 1, .string ⟨#[120]⟩] 41) = w8 at *
  generalize w7.heap.size = nb at *
  refine (list_in H8.out He.out [47] (by decide)).mono ?_
  rw [fx_list]
  rintro e w9 ⟨lv, rfl, ho9, hk9⟩
  have H9 := Lib.hid (H8.out.kept hk9)
  have HB9 := Lib.hid (blk_mod hk9 HB8.out id)
  have HR9 := Lib.hid (row_strs ho9)
  have HF9 : RowKit.Hid (Free r6 lv) := Lib.hid (own_free ho9 fun b hb => H8.out.lt hb)
  clear ho9 hk9 H8 HB8
  go_wp2_with fail
  refine (do_in H9.out He.out ⟨7, [115], [], 0, []⟩ ⟨by decide, by decide, by decide, by decide⟩).mono ?_
  rw [fx_5]
  rintro e w10 ⟨rfl, r10, h10, g10, m10⟩
  have H10 := Lib.hid h10
  have HB10 := Lib.hid (blk_mod m10 HB9.out (fun hn => hn Hr8.out))
  have HR10 := Lib.hid (row_free HR9.out HF9.out m10)
  clear h10 g10 m10 H9 HB9 HR9 HF9
  go_wp2_with fail
  refine (get_in H10.out He.out [98] (by decide)).mono ?_
  rw [fx_gno]
  rintro e w11 ⟨rfl, hk11⟩
  have H11 := Lib.hid (H10.out.kept hk11)
  have HB11 := Lib.hid (blk_mod hk11 HB10.out id)
  have HR11 := Lib.hid (row_keep HR10.out hk11)
  clear hk11 H10 HB10 HR10
  go_wp2_with fail
  have hk12 : Keep w11 (w11.alloc (.cells #[.int .i64 0, .bool false, .int .i64 0, .string ⟨#[]⟩] 41)) := (Mod.refl _ w11).alloc _
  have H12 := Lib.hid (H11.out.kept hk12)
  have HB12 := Lib.hid (blk_mod hk12 HB11.out id)
  have HR12 := Lib.hid (row_keep HR11.out hk12)
  clear hk12 H11 HB11 HR11
  generalize w11.alloc (.cells #[.int .i64 0, .bool false, .int .i64 0, .string ⟨#[]⟩] 41) = w12 at *
  refine (nodes_in H12.out).mono ?_
  rintro e w13 ⟨nv, rfl, ho13, hk13⟩
  have H13 := Lib.hid (H12.out.kept hk13)
  have HB13 := Lib.hid (blk_mod hk13 HB12.out id)
  have HR13 := Lib.hid (row_keep HR12.out hk13)
  have HN13 := Lib.hid (rowF_own nodeC_len ho13)
  clear ho13 hk13 H12 HB12 HR12
  go_wp2_with fail
  refine (from_in H13.out nv HN13.out).mono ?_
  rintro e w14 ⟨q, rq, rfl, h14, _, hk14⟩
  have H14 := Lib.hid (H13.out.kept hk14)
  have HQ14 := Lib.hid h14
  have HB14 := Lib.hid (blk_mod hk14 HB13.out id)
  have HR14 := Lib.hid (row_keep HR13.out hk14)
  clear h14 hk14 H13 HB13 HR13 HN13
  go_wp2_with fail
  refine (from_none w14).mono ?_
  rintro e w15 ⟨rfl, hk15⟩
  have H15 := Lib.hid (H14.out.kept hk15)
  have HQ15 := Lib.hid (HQ14.out.kept hk15)
  have HB15 := Lib.hid (blk_mod hk15 HB14.out id)
  have HR15 := Lib.hid (row_keep HR14.out hk15)
  clear hk15 H14 HQ14 HB14 HR14
  have c0 : w15.cell? ⟨nb, 0, none⟩ = some (.int .i64 2) := blk_cell HB15.out 0
  have c1 : w15.cell? ⟨nb, 1, none⟩ = some (.bool false) := blk_cell HB15.out 1
  have c2 : w15.cell? ⟨nb, 2, none⟩ = some (.int .i64 1) := blk_cell HB15.out 2
  have c3 : w15.cell? ⟨nb, 3, none⟩ = some (.string ⟨#[120]⟩) := blk_cell HB15.out 3
  have heq : ∀ W, (Op.equalIn 10000 41 (.agg #[.int .i64 2, .bool false, .int .i64 1, .string ⟨#[120]⟩]) (.agg #[.int .i64 2, .bool false, .int .i64 1, .string ⟨#[120]⟩])).run Tryz.prog W = .ok true W := fun W => node_equal ⟨2, false, 1, [120]⟩ ⟨2, false, 1, [120]⟩ W
  go_wp2_with fail
  have hk16 : Keep w15 (w15.alloc (.cells #[.string ⟨#[98]⟩] 9)) := (Mod.refl _ w15).alloc _
  refine (same_strs lv _ [[98]] [[98]] _ (row_keep HR15.out hk16) (row_new 1 (blk_new _ _ _)) (by decide) (by decide)).mono ?_
  rintro e w17 ⟨rfl, hk17⟩
  have H17 := Lib.hid ((H15.out.kept hk16).kept hk17)
  have HQ17 := Lib.hid ((HQ15.out.kept hk16).kept hk17)
  clear hk16 hk17 H15 HQ15 HB15 HR15 c0 c1 c2 c3 heq
  go_wp2_with fail
  refine (nodes_in HQ17.out).mono ?_
  rintro e w18 ⟨v1, rfl, ho18, hk18⟩
  have H18 := Lib.hid (H17.out.kept hk18)
  have HN18 := Lib.hid (rowF_own nodeC_len ho18)
  clear ho18 hk18 H17 HQ17
  go_wp2_with fail
  refine (nodes_in H18.out).mono ?_
  rintro e w19 ⟨v2, rfl, ho19, hk19⟩
  have H19 := Lib.hid (H18.out.kept hk19)
  have HN19 := Lib.hid (rowF_keep HN18.out hk19)
  have HM19 := Lib.hid (rowF_own nodeC_len ho19)
  clear ho19 hk19 H18 HN18
  go_wp2_with fail
  refine (same_nodes v1 v2 (toldT fx4) (toldT fx4) w19 HN19.out HM19.out (by decide) (by decide)).mono ?_
  rw [show decide (toldT fx4 = toldT fx4) = true from decide_eq_true rfl]
  rintro e w20 ⟨rfl, hk20⟩
  have HK20 := Lib.hid (H19.out.keep.keep hk20)
  clear hk20
  go_wp2_with fail
  go_ret
  exact ⟨rfl, HK20.out⟩
end
end Go.Proofs.YthmpblccplphfaaGreatDoor
