import Derived.Test.YtpdaepceijdckaaDigRef
import Derived.Test.YtpdaepceijdckaaDigRel
import Derived.Deep.DeepCutAuto
namespace Go.Proofs.Ytpdaepceijdckaa
open Go.RowKit
attribute [local go_sem] wrap_add_U bits_xor_U bits_or_U wrap_U

/-- What the reference writes behind a text. -/
def padOf (n : Nat) : List UInt8 := List.replicate (7 - n % 8) 0 ++ [(n % 256).toUInt8]
theorem byteOf_div (X : UInt64) (k : Nat) (hk : k < 8) : ((X.toNat / 256 ^ k : Nat) : Int) % 256 = ((byteOf X k).toNat : Int) := by
  rw [← byteOf_toNat X k hk]
  have e : (2 : Int) ^ (8 * k) = ((256 ^ k : Nat) : Int) := by rw [Int.pow_mul]; simp
  rw [e]; omega
theorem leBytes_take (X : UInt64) (k : Nat) (hk : k < 8) : (leBytes X).take (k + 1) = (leBytes X).take k ++ [byteOf X k] := by
  match k, hk with
  | 0, _ => rfl
  | 1, _ => rfl
  | 2, _ => rfl
  | 3, _ => rfl
  | 4, _ => rfl
  | 5, _ => rfl
  | 6, _ => rfl
  | 7, _ => rfl
theorem pad_word (rest : List UInt8) (n : Nat) (hr : rest.length = n % 8) : word (rest ++ padOf n) = lastWord rest n := by
  have hv := leVal_snoc (rest ++ List.replicate (7 - n % 8) 0) (n % 256).toUInt8
  have hz : ∀ (k : Nat) (l : List UInt8), leVal (l ++ List.replicate k 0) = leVal l := by
    intro k
    induction k with
    | zero => intro l; simp
    | succ k ih =>
      intro l
      have e : l ++ List.replicate (k + 1) 0 = (l ++ List.replicate k 0) ++ [0] := by
        rw [List.replicate_succ', List.append_assoc]
      rw [e, leVal_snoc, ih]; simp
  have hlen : (rest ++ List.replicate (7 - n % 8) 0).length = 7 := by simp; omega
  rw [hz, hlen, List.append_assoc] at hv
  have hlt := leVal_lt rest
  have h2 : 256 ^ rest.length ≤ 256 ^ 7 := Nat.pow_le_pow_right (by omega) (by omega)
  have hb : (n % 256).toUInt8.toNat = n % 256 := by simp
  rw [hb] at hv
  have hl8 : (rest ++ padOf n).length ≤ 8 := by simp [padOf]; omega
  apply UInt64.toNat_inj.1
  rw [word_toNat _ hl8, padOf, hv, lastWord, or, UInt64.toNat_or, word_toNat rest (by omega), UInt64.toNat_ofNat']
  have e3 : n * 2 ^ 56 % 2 ^ 64 = 2 ^ 56 * (n % 256) := by omega
  rw [e3, Nat.or_comm, ← Nat.two_pow_add_eq_or_of_lt (by omega)]
  omega
theorem absorb_len (s : List UInt8) : ∀ (v : St), (absorb v s).2.length = s.length % 8 := by
  generalize hn : s.length = n
  induction n using Nat.strongRecOn generalizing s with
  | _ n ih =>
    intro v
    by_cases h : 8 ≤ s.length
    · rw [absorb_step v s h, ih (s.drop 8).length (by simp; omega) _ rfl]; simp; omega
    · rw [absorb_end v s h]; simp; omega
theorem absorb_pad (v : St) (s : List UInt8) : absorb v (s ++ padOf s.length) = ((absorb v s).1.take (lastWord (absorb v s).2 s.length), []) := by
  have hl := absorb_len s v
  have h8 : ((absorb v s).2 ++ padOf s.length).length = 8 := by simp [padOf]; omega
  rw [absorb_more, absorb_step _ _ (by omega), List.take_of_length_le (by omega), List.drop_of_length_le (by omega), pad_word _ _ hl, absorb_end _ _ (by simp)]
set_option maxHeartbeats 400000 in
theorem rsum_no (key s : List UInt8) (w : World) (hk : key.length ≠ 16) :
    Calls Try.prog 9 #[.string ⟨key.toArray⟩, .string ⟨s.toArray⟩] w fun e w' => e = .returned (.tuple #[.string ⟨#[]⟩, .int .i64 20]) ∧ w = w' := by
  have hk' : ((key.length : Int) != 16) = true := by rw [bne_iff_ne]; omega
  clear hk
  go_enter Try.func9, Try.ntmps9
  go_wp2_with fail
  go_ret2
  exact ⟨rfl, rfl⟩
theorem info_u8 : (Try.prog.info? 5).map (fun i => (i.zero, i.size, i.bytes)) = some (some (.int .u8 0), 1, 1) := by kernel_rfl
set_option maxRecDepth 100000 in
set_option maxHeartbeats 1000000 in
theorem rsum_yes (key s : List UInt8) (w : World) (hk : key.length = 16) (hs : s.length ≤ 9223372036854775791) :
    Calls Try.prog 9 #[.string ⟨key.toArray⟩, .string ⟨s.toArray⟩] w fun e w' => e = .returned (.tuple #[.string ⟨(sip key s).toArray⟩, .int .i64 0]) ∧ Keep w w' := by
  have hk' : ((key.length : Int) != 16) = false := by rw [bne_eq_false_iff_eq]; omega
  have hk3 : key.length ≤ 16 := by omega
  have hk4 : 16 ≤ key.length := by omega
  clear hk
  have hc : ∀ v : St, v.cells [] = #[.int .u64 v.a.toNat, .int .u64 v.b.toNat, .int .u64 v.c.toNat, .int .u64 v.d.toNat] := fun _ => rfl
  go_enter Try.func9, Try.ntmps9
  go_wp2_with fail
  go_quiet ((exact Calls.quiet_of_same (rword_any _ _ (by simp; omega))))
  go_wp2_with fail
  go_cut [1] (fun s1 wr => s1 = .string ⟨(s ++ padOf s.length).toArray⟩ ∧ World.blk wr w.heap.size ((start key).cells []) 40 ∧ Keep w wr)
  case first =>
    obtain ⟨m, hm⟩ : ∃ m, s.length % 8 = m := ⟨_, rfl⟩
    obtain ⟨r, hr⟩ : ∃ r, 7 - m = r := ⟨_, rfl⟩
    have e1 : (s.length : Int).tmod 8 = (m : Int) := by rw [Int.tmod_eq_emod_of_nonneg (by omega)]; omega
    have e1' : (s.length : Int) % 8 = (m : Int) := by omega
    have e2 : IntKind.i64.wrap (7 - (m : Int)) = (r : Int) := by rw [IntKind.wrap_i64]; omega
    have e2' : 7 - (m : Int) = (r : Int) := by omega
    have e3 : (s.length : Int) % 256 = (((s.length % 256).toUInt8).toNat : Int) := by simp
    have hp : padOf s.length = List.replicate r 0 ++ [(s.length % 256).toUInt8] := by rw [padOf, hm, hr]
    have Hp := Lib.hid hp
    generalize (s.length % 256).toUInt8 = c at *
    have q1 := fun W => run_make_u8 (P := Try.prog) Try.underlying34 info_u8 r (by omega) W
    have q2 := fun W b n h => run_str_new (P := Try.prog) Try.underlying34 Try.underlying5 Try.underlying9 W b n (List.replicate r 0) h
    have q3 := fun W o b n h => run_str_new2 (P := Try.prog) Try.underlying34 Try.underlying5 Try.underlying9 W o b n (List.replicate r 0) h
    have q4 := fun W b n h => run_str_new (P := Try.prog) Try.underlying34 Try.underlying5 Try.underlying9 W b n [c] h
    have q5 := fun W o b n h => run_str_new2 (P := Try.prog) Try.underlying34 Try.underlying5 Try.underlying9 W o b n [c] h
    have q6 : bcells [c] = #[.int .u8 (c.toNat : Int)] := rfl
    rw [q6] at q4 q5
    rw [show [c].length = 1 from rfl] at q4 q5
    rw [List.length_replicate] at q2 q3
    clear hm hr q6 hp
    go_region
    all_goals
      clear e1 e1' e2 e2' e3 q1 q2 q3 q4 q5
      go_wp2_with fail
      go_meet
      case rel =>
        refine ⟨?_, ?_, ?_⟩
        · rw [Hp.out]; refine congrArg Value.string (ByteArray.ext ?_); simp
        · rw [hc]
          refine blk_drewN (blk_alloc (blk_alloc ?_ _) _) _
          rw [xlit _ 8317987319222330741 8317987319222330741 rfl, xlit _ 7237128888997146477 7237128888997146477 rfl, xlit _ 7816392313619706465 7816392313619706465 rfl, xlit _ 8387220255154660723 8387220255154660723 rfl]
          exact blk_new _ _ _
        · exact ((((Mod.refl _ _).alloc _).alloc _).alloc _).drewN _
  case rest =>
    obtain ⟨rfl, hB, hK⟩ := hcut
    have HK := Lib.hid hK
    have hl : (s ++ padOf s.length).length % 8 = 0 := by simp [padOf]; omega
    have hl2 : (s ++ padOf s.length).length ≤ s.length + 8 := by simp [padOf] <;> omega
    generalize hp : s ++ padOf s.length = p at *
    have Hp := Lib.hid hp
    clear hK hk' hk3 hk4 hp
    go_wp2_with fail
    go_loopw [10, 11] (fun i _ wr => ∃ (k : Nat) (v : St), 8 * k ≤ p.length ∧ i = .int .i64 (8 * (k : Int)) ∧ World.blk wr w.heap.size (v.cells []) 40 ∧ Keep w wr ∧ absorb v (p.drop (8 * k)) = absorb (start key) p) (fun i _ _ => p.length - (intOf i).toNat)
    case atStart => exact ⟨0, start key, by omega, rfl, hB, HK.out, by simp⟩
    case round =>
      clear hB HK
      obtain ⟨k, v, hk, rfl, hB, hK, hab⟩ := hrel
      have HK := Lib.hid hK
      have Hab := Lib.hid hab
      clear hK hab
      by_cases hlt : 8 * k < p.length
      · have hlt2 : 8 * k + 8 ≤ p.length := by omega
        have Hb := Lib.hid (blk_lt hB)
        rw [← putB_self hB]
        rw [hc v]
        go_wp2_with fail
        refine (rword_any _ _ (by simp; omega)).mono ?_
        rintro e w1 ⟨rfl, rfl⟩
        generalize hm : word (List.take 8 (List.drop (8 * k) p)) = m
        have Hm := Lib.hid hm
        have hb := Hb.out
        clear hm
        go_wp2_with fail
        refine (rround_any { v with d := xor v.d m } _).mono ?_
        rintro e w1 ⟨rfl, hk1⟩
        have hB1 := blk_mod hk1 (putB_blk hb) id
        have Hk1 := Lib.hid hk1
        clear hk1
        go_wp2_with fail
        refine (rround_any _ _).mono ?_
        rintro e w2 ⟨rfl, hk2⟩
        have hB2 := blk_mod hk2 hB1 id
        have hb2 := blk_lt hB2
        have Hk2 := Lib.hid hk2
        generalize hr : St.round (St.round { v with d := xor v.d m }) = r
        have Hr := Lib.hid hr
        clear hk2 hB1 hr hb
        rw [hc r]
        rw [← putB_self hB2]
        have HB2 := Lib.hid hB2
        clear hB2 hB hc
        go_wp2_with fail
        refine ⟨⟨k + 1, v.take m, by omega, by go_num, ?_, ?_, ?_⟩, by simp [intOf]; omega⟩
        · have e : (v.take m).cells [] = #[.int .u64 (xor r.a m).toNat, .int .u64 r.b.toNat, .int .u64 r.c.toNat, .int .u64 r.d.toNat] := by rw [St.take, Hr.out]; rfl
          rw [e]; exact putB_blk hb2
        · exact (((HK.out.putB (Or.inr (Nat.le_refl _)) _ _).keep Hk1.out).keep Hk2.out).putB (Or.inr (Nat.le_refl _)) _ _
        · have h := absorb_step v (p.drop (8 * k)) (by simp; omega)
          rw [Hm.out, Hab.out, List.drop_drop] at h
          rw [show 8 * (k + 1) = 8 * k + 8 by omega]; exact h.symm
      · have Hk : RowKit.Hid (8 * k = p.length) := Nat.le_antisymm hk (by omega)
        have hv := Hab.out
        rw [Hk.out, List.drop_length, absorb_end _ _ (by simp), ← Hp.out, absorb_pad] at hv
        have hv1 := congrArg Prod.fst hv
        have Hv := Lib.hid hv1
        clear hv hv1 Hab
        have Hb := Lib.hid (blk_lt hB)
        rw [← putB_self hB]
        have Hx := Lib.hid hB
        rw [hc v]
        have x1 := xlit v.c 255 255 rfl
        have hb := Hb.out
        clear hB
        go_wp2_with fail
        clear x1
        refine (rround_any { v with c := xor v.c 255 } _).mono ?_
        rintro e w1 ⟨rfl, hk1⟩
        have HB1 := Lib.hid (blk_mod hk1 (putB_blk hb) id)
        have HK1 := Lib.hid ((HK.out.putB (Or.inr (Nat.le_refl _)) _ _).keep hk1)
        clear hk1 hb HK Hb Hx
        go_wp2_with fail
        refine (rround_any _ _).mono ?_
        rintro e w2 ⟨rfl, hk2⟩
        have HB2 := Lib.hid (blk_mod hk2 HB1.out id)
        have HK2 := Lib.hid (HK1.out.keep hk2)
        clear hk2 HB1 HK1
        go_wp2_with fail
        refine (rround_any _ _).mono ?_
        rintro e w3 ⟨rfl, hk3⟩
        have HB3 := Lib.hid (blk_mod hk3 HB2.out id)
        have HK3 := Lib.hid (HK2.out.keep hk3)
        clear hk3 HB2 HK2
        go_wp2_with fail
        refine (rround_any _ _).mono ?_
        rintro e w4 ⟨rfl, hk4⟩
        have HB4 := Lib.hid (blk_mod hk4 HB3.out id)
        have HK4 := Lib.hid (HK3.out.keep hk4)
        clear hk4 HB3 HK3
        generalize hr : St.round (St.round (St.round (St.round { v with c := xor v.c 255 }))) = r
        have hfin : St.final v = xor (xor (xor r.a r.b) r.c) r.d := by rw [← hr]; rfl
        have Hfin := Lib.hid hfin
        have hb4 := blk_lt HB4.out
        clear hr hfin
        rw [hc r, ← putB_self HB4.out]
        clear HB4 hc
        go_wp2_with fail
        have hK5 : Keep w ((w4.putB w.heap.size #[.int .u64 r.a.toNat, .int .u64 r.b.toNat, .int .u64 r.c.toNat, .int .u64 r.d.toNat] 40).alloc (.cells #[] 5)) := (HK4.out.putB (Or.inr (Nat.le_refl _)) _ _).alloc _
        have HK5 := Lib.hid hK5
        have Ho := Lib.hid (World.ownsRow_made (w := w4.putB w.heap.size #[.int .u64 r.a.toNat, .int .u64 r.b.toNat, .int .u64 r.c.toNat, .int .u64 r.d.toNat] 40) (base := w.heap.size) (e := 5) (size := 1) #[] 0 (by rw [putB_size]; omega) (by decide) (by simp))
        generalize hX : xor (xor (xor r.a r.b) r.c) r.d = X at *
        have Hn := fun (W : World) => W
        clear hK5 HK4 hb4 hX
        rw [putB_size] at Ho
        go_loopw [12, 13, 14] (fun x b i wr => ∃ (k : Nat), k ≤ 8 ∧ i = .int .i64 (k : Int) ∧ x = .int .u64 (X.toNat / 256 ^ k : Nat) ∧ wr.ownsRow w.heap.size 5 1 b k (u8s ((leBytes X).take k)) ∧ Keep w wr) (fun _ _ i _ => 8 - (intOf i).toNat)
        case atStart => exact ⟨0, by omega, rfl, by simp, Ho.out, HK5.out⟩
        case round =>
          clear Ho HK5
          obtain ⟨k, hk8, rfl, rfl, hown, hK⟩ := hrel
          have Hown := Lib.hid hown
          have HK := Lib.hid hK
          clear hown hK
          by_cases hlt8 : k < 8
          · have hb1 := byteOf_div X k hlt8
            have hb2 : X.toNat / 256 ^ k / 256 = X.toNat / 256 ^ (k + 1) := by rw [Nat.div_div_eq_div_mul, Nat.pow_succ]
            have hb3 : X.toNat / 256 ^ k ≤ 18446744073709551615 := Nat.le_trans (Nat.div_le_self _ _) (by have := X.toNat_lt; omega)
            generalize X.toNat / 256 ^ k = N at *
            have H2 := Lib.hid hb2
            have hc8 := (byteOf X k).toNat_lt
            obtain ⟨b', w', hrun, hown', hK'⟩ := append_byte (P := Try.prog) Try.underlying34 info_u8 w.heap.size u13 k _ wr w Hown.out (byteOf X k) (by omega) HK.out.size HK.out (Nat.le_refl _)
            rw [← leBytes_take X k hlt8] at hown'
            have Hown' := Lib.hid hown'
            have HK' := Lib.hid hK'
            generalize byteOf X k = c at *
            have e1 : (N : Int).tmod 256 = (c.toNat : Int) := by rw [Int.tmod_eq_emod_of_nonneg (by omega)]; exact hb1
            have e2 : (c.toNat : Int) % 256 = (c.toNat : Int) := by omega
            clear hown' hK' hb2
            have Hrun := Lib.hid hrun
            clear hrun
            go_wp2_with ((at_builtin; refine wpList_append_run Hrun.out rfl rfl rfl rfl ?_))
            refine ⟨⟨k + 1, by omega, by go_num, ?_, Hown'.out, HK'.out⟩, by simp [intOf]; omega⟩
            rw [← H2.out]
            go_num
          · obtain rfl : k = 8 := by omega
            have hsh : ∃ g cap, u13 = .slice (some ⟨g, 0, none⟩) 8 cap := by
              rcases Hown.out.2 with ⟨_, h⟩ | ⟨g, cap, _, rfl, _⟩
              · omega
              · exact ⟨g, cap, rfl⟩
            obtain ⟨g, cap, rfl⟩ := hsh
            have hcells := Hown.out.cells (g := g) rfl
            have hst := run_str (P := Try.prog) wr 34 9 5 g 0 8 cap (leBytes X) Try.underlying34 Try.underlying5 Try.underlying9 rfl (fun j hj => by
              have hx : (u8s ((leBytes X).take 8))[j]? = some ((u8s ((leBytes X).take 8))[j]'(by simpa [u8s, leBytes] using hj)) := List.getElem?_eq_getElem _
              have := hcells j _ hx
              rw [addr_add] at this
              rw [this, ← hx, List.take_of_length_le (by simp [leBytes])])
            clear hcells
            go_wp2_with fail
            go_ret2
            refine ⟨?_, HK.out⟩
            rw [sip, sumOf, ← Hv.out, Hfin.out]
            rfl
end Go.Proofs.Ytpdaepceijdckaa
