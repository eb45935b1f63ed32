/-
  Trees of files: a rename keeps what holds of every tree; all commands do. No program here.
-/
import Derived.Test.YthmpblccplphfaaGreatDoorFilV
namespace Go.Proofs.YthmpblccplphfaaGreatDoor
open Go.RowKit
section
variable {T : Tr} {d : Int → Nat}
theorem named_mono {o : Int} {s : List UInt8} (h : WF T d) : ∀ k n1, (T.named o (delN s)).get k = some n1 → ∃ n, T.get k = some n ∧ (n1.dir = true → n.dir = true) ∧ ∀ x i, getN x n1.names = some i → getN x n.names = some i := by
  intro k n1 hg
  rw [get_named] at hg
  by_cases hk : k = o
  · rw [if_pos hk] at hg
    obtain ⟨n, hn, rfl⟩ := Option.map_eq_some_iff.1 hg
    obtain ⟨hm, _⟩ := (get_iff h.sorted).1 hn
    refine ⟨n, hn, id, fun x i hx => ?_⟩
    rw [getG_iff (delG_sorted (h.snames n hm))] at hx
    exact (getG_iff (h.snames n hm)).2 (delG_mem.1 hx).1
  · rw [if_neg hk] at hg
    exact ⟨n1, hg, id, fun _ _ h => h⟩
/-- renaming: what the parts are -/
structure Ren (T : Tr) (d : Int → Nat) (c : Cmd) (p1 : List (List UInt8)) (s1 : List UInt8) (o : Int) (p2 : List (List UInt8)) (s2 : List UInt8) (k j : Int) (upo upk nj : Nd) : Prop where
  path : pathOf c.path = some (p1 ++ [s1])
  dest : pathOf c.dest = some (p2 ++ [s2])
  fj : findT T 1 (p1 ++ [s1]) = .ok j
  fo : findT T 1 p1 = .ok o
  fk : findT T 1 p2 = .ok k
  go : T.get o = some upo
  gk : T.get k = some upk
  gj : T.get j = some nj
  dirO : upo.dir = true
  dirK : upk.dir = true
  was : getN s1 upo.names = some j
  new : getN s2 upk.names = none
  room : upk.names.length < 60
  ok : nameOk s2 = true
  apart : Lib.hasPrefix c.dest (c.path ++ [47]) = false
  dk : d k = p2.length
  long : p2.length + 1 + deepT T 9 j ≤ 8
  j1 : j ≠ 1
theorem find_err {T : Tr} : ∀ (l : List (List UInt8)) (k e : Int), findT T k l = .error e → e = 141 ∨ e = 143 := by
  intro l
  induction l with
  | nil => intro k e h; cases h
  | cons s r ih =>
    intro k e h
    rw [find_cons] at h
    split at h
    · cases h; exact .inl rfl
    · split at h
      · split at h
        · cases h; exact .inl rfl
        · exact ih _ _ h
      · cases h; exact .inr rfl
theorem at_err {T : Tr} {path : List UInt8} {e : Int} (h : atT T path = .error e) : 140 ≤ e := by
  unfold atT at h
  split at h
  · cases h; decide
  · rcases find_err _ _ _ h with rfl | rfl <;> decide
theorem room_err {T : Tr} {path : List UInt8} {e : Int} (h : roomT T path = .error e) : 140 ≤ e := by
  unfold roomT at h
  simp only at h
  split at h
  · cases h; decide
  · split at h
    · rename_i h1
      cases h
      rcases find_err _ _ _ h1 with rfl | rfl <;> decide
    · split at h
      · cases h; decide
      · split at h
        · cases h; decide
        · split at h
          · cases h; decide
          · split at h
            · cases h; decide
            · cases h
theorem ren_cases (h : WF T d) (c : Cmd) : (∃ e, renamesT T c = (T, e) ∧ 140 ≤ e) ∨ ∃ p1 s1 o p2 s2 k j upo upk nj, Ren T d c p1 s1 o p2 s2 k j upo upk nj ∧ renamesT T c = ((T.named o (delN s1)).named k (putN s2 j), 0) := by
  unfold renamesT
  by_cases hr : c.path = [47]
  · rw [if_pos hr]; exact .inl ⟨_, rfl, by decide⟩
  · rw [if_neg hr]
    cases ha : atT T c.path with
    | error e => exact .inl ⟨e, rfl, at_err ha⟩
    | ok j =>
      by_cases hp : Lib.hasPrefix c.dest (c.path ++ [47]) = true
      · simp only [hp, if_true]; exact .inl ⟨_, rfl, by decide⟩
      · simp only [hp, if_false]
        cases hro : roomT T c.dest with
        | error e => exact .inl ⟨e, rfl, room_err hro⟩
        | ok x =>
          obtain ⟨k, s2⟩ := x
          obtain ⟨p2, upk, hd, hp7, hok, hfk, hgk, hdk, hn, h60, hdd⟩ := room_ok h hro
          obtain ⟨p1, s1, o, upo, hpath, hfj, hfo, hgo, hdo, hs⟩ := last_ok h ha hr
          obtain ⟨l, nj, hl, hfl, hgj⟩ := at_ok h ha
          simp only [hd, Option.getD_some, hpath, List.dropLast_concat, List.getLastD_concat, hfo]
          by_cases h8 : 8 < (p2 ++ [s2]).length + deepT T 9 j
          · rw [if_pos h8]; exact .inl ⟨_, rfl, by decide⟩
          · rw [if_neg h8]
            obtain ⟨hom, _⟩ := (get_iff h.sorted).1 hgo
            refine .inr ⟨p1, s1, o, p2, s2, k, j, upo, upk, nj, ⟨hpath, hd, hfj, hfo, hfk, hgo, hgk, hgj, hdo, hdk, hs, hn, h60, hok, by simpa using hp, hdd, ?_, (h.closed upo hom _ ((getG_iff (h.snames upo hom)).1 hs)).1⟩, rfl⟩
            simp only [List.length_append, List.length_cons, List.length_nil] at h8
            omega
theorem ren_sub {c : Cmd} {p1 p2 : List (List UInt8)} {s1 s2 : List UInt8} {o k j : Int} {upo upk nj : Nd} (h : WF T d) (r : Ren T d c p1 s1 o p2 s2 k j upo upk nj) (hd : nj.dir = true) : ∀ p, findT T j p ≠ .ok k := by
  intro p hp
  have h1 : findT T 1 (p1 ++ [s1] ++ p) = .ok k := by rw [find_append, r.fj]; exact hp
  have h2 := dir_unique h _ _ _ _ _ rfl h1 r.fk r.gk r.dirK
  have h3 := prefix_path r.path (q := p ++ [s2]) (by rw [r.dest, ← h2]; simp) (by simp) (by simp)
  rw [r.apart] at h3; cases h3
theorem wf_ren {c : Cmd} {p1 p2 : List (List UInt8)} {s1 s2 : List UInt8} {o k j : Int} {upo upk nj : Nd} (h : WF T d) (r : Ren T d c p1 s1 o p2 s2 k j upo upk nj) : ∃ d', WF ((T.named o (delN s1)).named k (putN s2 j)) d' := by
  have h1 := wf_del h r.go r.was
  have hmono := named_mono (o := o) (s := s1) h
  -- the directory that gets the name, behind the strike
  obtain ⟨upk', gk', dk', nk', lk'⟩ : ∃ up', (T.named o (delN s1)).get k = some up' ∧ up'.dir = true ∧ getN s2 up'.names = none ∧ up'.names.length < 60 := by
    rw [get_named]
    by_cases e : k = o
    · rw [if_pos e, r.gk]
      refine ⟨_, rfl, r.dirK, ?_, Nat.lt_of_le_of_lt (delG_len _ _) r.room⟩
      rw [getG_none]
      intro p hp
      exact getG_none.1 r.new p (delG_mem.1 hp).1
    · rw [if_neg e]; exact ⟨upk, r.gk, r.dirK, r.new, r.room⟩
  obtain ⟨nj', gj', dj'⟩ : ∃ n', (T.named o (delN s1)).get j = some n' ∧ n'.dir = nj.dir := by
    rw [get_named]
    by_cases e : j = o
    · rw [if_pos e, r.gj]; exact ⟨_, rfl, rfl⟩
    · rw [if_neg e]; exact ⟨nj, r.gj, rfl⟩
  have hp7 : p2.length ≤ 7 := by have := r.long; omega
  have fin : ∀ d' : Int → Nat, WFo (T.named o (delN s1)) d' (fun x => 0 + if j = x then 1 else 0) → d' k ≤ 7 → (nj'.dir = true → d' j = d' k + 1) → WF ((T.named o (delN s1)).named k (putN s2 j)) d' := by
    intro d' hw h7 hj
    refine wf_off (wf_put hw gk' dk' nk' lk' r.ok r.j1 gj' h7 hj) fun n _ _ => ?_
    show (0 : Int) = 0 + (if j = n.num then 1 else 0) - if j = n.num then 1 else 0
    omega
  by_cases hd : nj.dir = true
  · -- a directory goes with all that is below it
    have hjd' : nj'.dir = true := dj'.trans hd
    obtain ⟨hjm', hjn'⟩ := (get_iff h1.sorted).1 gj'
    have hcj : cnt (T.named o (delN s1)) j = 0 := by
      have hc := h1.count nj' hjm' (by rw [hjn']; exact r.j1)
      have := hc.2.2 hjd'
      have := hc.1
      rw [hjn', if_pos rfl] at this
      omega
    have hnoj : ∀ n ∈ T.named o (delN s1), ∀ p ∈ n.names, p.2 ≠ j := fun n hn p hp e => by
      have := cnt_pos hn hp e; omega
    let Sub : Int → Prop := fun x => ∃ p, findT (T.named o (delN s1)) j p = .ok x
    have hdep : ∀ p x m, findT (T.named o (delN s1)) j p = .ok x → (T.named o (delN s1)).get x = some m → m.dir = true → d x = d j + p.length := fun p x m hf hg hm =>
      (find_ok h1 p j x ⟨nj', hjm', hjn'⟩ hf).2 nj' gj' hjd' m hg hm
    classical
    let d' : Int → Nat := fun x => if Sub x then d x - d j + (p2.length + 1) else d x
    have hk : ¬ Sub k := fun ⟨p, hp⟩ => ren_sub h r hd p (find_mono hmono p j k hp)
    have hj : Sub j := ⟨[], rfl⟩
    have h1s : ¬ Sub 1 := by
      rintro ⟨p, hp⟩
      rcases nil_or_snoc p with rfl | ⟨q, s, rfl⟩
      · have e : j = 1 := by simpa [findT] using hp
        exact r.j1 e
      · obtain ⟨y, ny, _, hy, _, hs⟩ := find_snoc.1 hp
        obtain ⟨hym, _⟩ := (get_iff h1.sorted).1 hy
        exact absurd rfl (h1.closed ny hym _ ((getG_iff (h1.snames ny hym)).1 hs)).1
    have hw : WFo (T.named o (delN s1)) d' (fun x => 0 + if j = x then 1 else 0) := by
      refine wf_rank h1 ?_ (fun n hn hne => ?_) (fun n hn p hp m hm hmp hmd => ?_)
      · show (if Sub 1 then _ else d 1) = 0
        rw [if_neg h1s]; exact h1.droot
      · show (if Sub n.num then _ else d n.num) ≤ 7
        have hg := (get_iff h1.sorted).2 ⟨hn, rfl⟩
        have hnd : n.dir = true := by
          cases hnd : n.dir with
          | true => rfl
          | false => exact absurd (h1.file n hn hnd).1 hne
        by_cases hs : Sub n.num
        · rw [if_pos hs]
          obtain ⟨q, hq⟩ := hs
          have e := hdep q n.num n hq hg hnd
          have h7 := h1.deep n hn hne
          obtain ⟨pe, hpe⟩ := List.exists_mem_of_ne_nil _ hne
          have hq2 : findT (T.named o (delN s1)) j (q ++ [pe.1]) = .ok pe.2 := find_snoc.2 ⟨_, n, hq, hg, hnd, (getG_iff (h1.snames n hn)).2 hpe⟩
          have h9 := deep_ge h _ 9 j _ (find_mono hmono _ j _ hq2) (by simp; omega)
          simp only [List.length_append, List.length_cons, List.length_nil] at h9
          have := r.long
          omega
        · rw [if_neg hs]; exact h1.deep n hn hne
      · have hne : n.names ≠ [] := List.ne_nil_of_mem hp
        have hg := (get_iff h1.sorted).2 ⟨hn, rfl⟩
        have hgm := (get_iff h1.sorted).2 ⟨hm, hmp⟩
        have hnd : n.dir = true := by
          cases hnd : n.dir with
          | true => rfl
          | false => exact absurd (h1.file n hn hnd).1 hne
        have hde := h1.depth n hn p hp m hm hmp hmd
        show (if Sub p.2 then _ else d p.2) = (if Sub n.num then _ else d n.num) + 1
        by_cases hs : Sub n.num
        · have hs2 : Sub p.2 := by
            obtain ⟨q, hq⟩ := hs
            exact ⟨q ++ [p.1], find_snoc.2 ⟨_, n, hq, hg, hnd, (getG_iff (h1.snames n hn)).2 hp⟩⟩
          rw [if_pos hs, if_pos hs2]
          obtain ⟨q, hq⟩ := hs
          have e := hdep q n.num n hq hg hnd
          omega
        · have hs2 : ¬ Sub p.2 := by
            rintro ⟨q, hq⟩
            rcases nil_or_snoc q with rfl | ⟨q', s, rfl⟩
            · have e : j = p.2 := by simpa [findT] using hq
              exact hnoj n hn p hp e.symm
            · obtain ⟨y, ny, hqy, hy, _, hys⟩ := find_snoc.1 hq
              obtain ⟨hym, hyn⟩ := (get_iff h1.sorted).1 hy
              have hin := (getG_iff (h1.snames ny hym)).1 hys
              have hc : cnt (T.named o (delN s1)) p.2 ≤ 1 := by
                have hm1 : m.num ≠ 1 := by rw [hmp]; exact (h1.closed n hn p hp).1
                have hc := h1.count m hm hm1
                have := hc.2.2 hmd
                have := hc.1
                rw [hmp, if_neg (fun e => hnoj n hn p hp e.symm)] at this
                omega
              obtain ⟨e1, _⟩ := one_parent h1 hc hym hn hin hp rfl rfl
              exact hs ⟨q', by rw [hqy, ← hyn, e1]⟩
          rw [if_neg hs, if_neg hs2]; exact hde
    refine ⟨d', fin d' hw ?_ fun _ => ?_⟩
    · show (if Sub k then _ else d k) ≤ 7
      rw [if_neg hk, r.dk]; exact hp7
    · show (if Sub j then _ else d j) = (if Sub k then _ else d k) + 1
      rw [if_pos hj, if_neg hk, r.dk]; omega
  · exact ⟨d, fin d h1 (by rw [r.dk]; exact hp7) (fun e => absurd (dj' ▸ e) hd)⟩
theorem wf_renames (h : WF T d) (c : Cmd) : ∃ d', WF (renamesT T c).1 d' := by
  rcases ren_cases h c with ⟨e, he, _⟩ | ⟨p1, s1, o, p2, s2, k, j, upo, upk, nj, r, he⟩
  · rw [he]; exact ⟨d, h⟩
  · rw [he]; exact wf_ren h r
/-! ### a command's fields -/
theorem kind_k {c : Cmd} {k : Nat} (h : c.kind = (k : Int)) (hk : k < 9) : c.k = k := k_of k hk c h
theorem ok_pos {c : Cmd} (h : c.ok = true) : 0 ≤ c.pos ∧ c.pos ≤ 16384 := by
  obtain ⟨h9, hf, hb⟩ := ok_parts h
  have hk := k_lt h9
  by_cases h23 : c.k = 2 ∨ c.k = 3
  · have := hf 3 (by rcases h23 with e | e <;> rw [e] <;> simp [fieldsOf])
    simpa [Cmd.fieldOk] using this
  · have : c.pos = 0 := by
      rw [← hb]
      rcases (by omega : c.k = 0 ∨ c.k = 1 ∨ c.k = 4 ∨ c.k = 5 ∨ c.k = 6 ∨ c.k = 7 ∨ c.k = 8) with e | e | e | e | e | e | e <;> rw [e] <;> rfl
    omega
theorem ok_data {c : Cmd} (h : c.ok = true) : c.data.length ≤ 512 ∧ (c.kind ≠ 2 → c.data = []) := by
  obtain ⟨h9, hf, hb⟩ := ok_parts h
  have hk := k_lt h9
  by_cases h2 : c.k = 2
  · have := hf 4 (by rw [h2]; simp [fieldsOf])
    refine ⟨by simpa [Cmd.fieldOk] using this, fun h => ?_⟩
    rw [hk, h2] at h; exact absurd rfl h
  · have : c.data = [] := by
      rw [← hb]
      rcases (by omega : c.k = 0 ∨ c.k = 1 ∨ c.k = 3 ∨ c.k = 4 ∨ c.k = 5 ∨ c.k = 6 ∨ c.k = 7 ∨ c.k = 8) with e | e | e | e | e | e | e | e <;> rw [e] <;> rfl
    exact ⟨by rw [this]; simp, fun _ => this⟩
theorem wf_do (h : WF T d) (c : Cmd) : ∃ d', WF (doT T c).1 d' := by
  unfold doT
  by_cases hok : c.ok = false
  · rw [if_pos hok]; exact ⟨d, h⟩
  · rw [if_neg hok]
    have hok : c.ok = true := by simpa using hok
    split
    · exact wf_makes h c
    · split
      · exact ⟨d, wf_writes h c (ok_pos hok).1 (ok_data hok).2⟩
      · split
        · exact ⟨d, wf_links h c⟩
        · split
          · exact wf_renames h c
          · split
            · exact ⟨d, wf_removes h c⟩
            · exact ⟨d, h⟩
end
end Go.Proofs.YthmpblccplphfaaGreatDoor
