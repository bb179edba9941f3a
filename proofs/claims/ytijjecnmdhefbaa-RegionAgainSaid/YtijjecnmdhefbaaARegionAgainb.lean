/- The own texts that the statement RegionAgain leans on: RAgain. -/
import Derived.Test.YtijjecnmdhefbaaARegionAgain
import Derived.Deep.DeepCutAuto
import Derived.Outline
namespace Go.Proofs.Ytijjecnmdhefbaa.RG
open Go.ChangeShapes Go.WideShapes Go.RowKit Go.Proofs.YtijjecnmdhefbaaW.PrintWords Go.Proofs.YtijjecnmdhefbaaW.PrintLast Go.Proofs.YtijjecnmdhefbaaW.PrintMore Go.Proofs.Ytijjecnmdhefbaa.CD Go.Proofs.Ytijjecnmdhefbaa.BR Go.Proofs.Ytijjecnmdhefbaa.BP
attribute [local go_sem] max2_int min2_int max_two min_two max_three min_three max_four min_four
set_option linter.unusedVariables false
set_option linter.unusedSimpArgs false
theorem getout {F t : Nat} {A : Option Addr} {n c : Nat} {l : List Ent} {w : World} (h : Calls Try.prog F #[.slice A n c] w fun e w' => Got t (some l) w e w') :
    Calls Try.prog F #[.slice A n c] w fun e w' => ∃ v, e = .returned (.tuple #[v, .int .i64 0]) ∧ Kd.R kE t w' w.heap.size (fun _ => True) v l ∧ Below w.heap.size w w' :=
  h.mono fun e w' ⟨⟨v, he, hR⟩, hb⟩ => ⟨v, he, hR, hb⟩
theorem put_two (A : Option Addr) (n c : Nat) (xs : List Ent) (w : World) (hn : n ≤ c) (hm : n ≤ 100000000) (hp : Ents w A n xs) :
    Calls Try.prog 14 #[.slice A n c] w fun e w' => ∃ v, e = .returned (.tuple #[v, .int .i64 (told (dir xs)).2]) ∧ OB w' w.heap.size v (told (dir xs)).1 ∧ Below w.heap.size w w' := by
  refine (put_region A n c xs w hn hm hp).mono ?_
  rintro e w' ⟨h1, h2⟩
  cases hd : dir xs with
  | error k => rw [hd] at h1; exact ⟨_, h1, own_nil _ _ _ _, h2⟩
  | ok b => rw [hd] at h1; obtain ⟨v, he, ho⟩ := h1; exact ⟨v, he, ho, h2⟩
theorem dirF_longest : ∀ (l : List Ent) (was : Int) (b : List Int), dirF was l = .ok b → b.length ≤ 40 * l.length
  | [], _, b, h => by simp [dirF] at h; subst h; simp
  | x :: l, was, b, h => by
    cases h1 : eMay x with
    | false => unfold dirF at h; rw [h1, if_pos rfl] at h; cases h
    | true =>
      by_cases h2 : x.1 ≤ was
      · unfold dirF at h; rw [h1, if_neg (by simp), if_pos h2] at h; cases h
      · rw [dirF_step _ _ _ h1 h2] at h
        cases hd : dirF x.1 l with
        | error e => rw [hd] at h; cases h
        | ok c' =>
          rw [hd] at h
          injection h with h
          have h : b = nums4 (eNums was x) ++ c' := h.symm
          have := dirF_longest l _ c' hd
          have hp := nums4_le (eNums was x)
          have h4 : (eNums was x).length = 4 := rfl
          rw [h, List.length_append, List.length_cons]
          omega
theorem dir_longest (l : List Ent) (b : List Int) (h : dir l = .ok b) : b.length ≤ 10 + 40 * l.length := by
  unfold dir at h
  cases hd : dirF (-1) l with
  | error e => rw [hd] at h; cases h
  | ok c => rw [hd] at h; injection h with h; have := dirF_longest l _ c hd; have := num_le l.length; rw [← h]; simp only [List.length_append]; omega
theorem rootF_longest : ∀ (l : List Ent) (was : Option Ent) (b : List Int), rootF was l = .ok b → b.length ≤ 40 * l.length
  | [], _, b, h => by simp [rootF] at h; subst h; simp
  | x :: l, was, b, h => by
    cases h1 : rMay x with
    | false => rw [rootF_may _ _ _ h1] at h; cases h
    | true =>
      cases h2 : late was x with
      | true => rw [rootF_late _ _ _ h1 h2] at h; cases h
      | false =>
        rw [rootF_step _ _ _ h1 h2] at h
        cases hd : rootF (some x) l with
        | error e => rw [hd] at h; cases h
        | ok c' =>
          rw [hd] at h
          injection h with h
          have h : b = rNums x ++ c' := h.symm
          have := rootF_longest l _ c' hd
          have hp := rNums_le x
          rw [h, List.length_append, List.length_cons]
          omega
theorem root_longest (l : List Ent) (b : List Int) (h : root l = .ok b) : b.length ≤ 10 + 40 * l.length := by
  unfold root at h
  cases hd : rootF none l with
  | error e => rw [hd] at h; cases h
  | ok c => rw [hd] at h; injection h with h; have := rootF_longest l _ c hd; have := num_le l.length; rw [← h]; simp only [List.length_append]; omega
theorem getF_len : ∀ (f : Nat) (n : Int) (s : St) (at_ : Int) (acc l : List Ent) (s' : St), getF f n s at_ acc = some (l, s') → l.length ≤ acc.length + f
  | 0, _, _, _, _, _, _, h => by simp [getF] at h
  | f + 1, n, s, at_, acc, l, s', h => by
    rw [getF] at h
    split at h
    · split at h
      · split at h
        · have := getF_len f n _ _ _ l s' h
          rw [List.length_append] at this
          simp at this
          omega
        · cases h
      · cases h
    · simp only [Option.some.injEq, Prod.mk.injEq] at h
      rw [← h.1]; omega
theorem getDir_len (X : List Int) (l : List Ent) (h : getDir X = some l) : l.length ≤ 1025 := by
  unfold getDir at h
  cases hg : getD0 X with
  | none => rw [hg] at h; cases h
  | some q =>
    obtain ⟨l', s⟩ := q
    rw [hg] at h
    have h2 := getF_len _ _ _ _ _ _ _ hg
    cases hd : dir l' with
    | error k => rw [fin_err _ _ _ _ hd] at h; cases h
    | ok b =>
      rw [fin_ok _ _ _ _ hd] at h
      split at h
      · injection h with h; rw [← h]; simpa using h2
      · cases h
theorem told_cases (d : Except Int (List Int)) (L : List Int) (er : Int) (h : told d = (L, er)) (he : ∀ k, d = .error k → k = 2 ∨ k = 6) : (er = 0 ∧ d = .ok L) ∨ er = 2 ∨ er = 6 := by
  cases d with
  | ok b => simp only [told, Prod.mk.injEq] at h; exact .inl ⟨h.2.symm, by rw [h.1]⟩
  | error k => simp only [told, Prod.mk.injEq] at h; rw [← h.2]; exact .inr (he k rfl)
set_option maxHeartbeats 4000000 in
set_option maxRecDepth 100000 in
theorem againLaw (A : Option Addr) (n c : Nat) (xs : List Ent) (A2 : Option Addr) (n2 c2 : Nat) (xs2 : List Ent) (s : ByteArray) (w : World) (hn : n ≤ c) (hm : c ≤ maxLen) (hp : Kd.C kE w A n xs) (hn2 : n2 ≤ c2) (hm2 : c2 ≤ maxLen) (hp2 : Kd.C kE w A2 n2 xs2) :
    Calls Try.prog 7 #[.slice A n c, .slice A2 n2 c2, .string s] w fun e w' => e = .returned (.bool true) ∧ Below w.heap.size w w' := by
  obtain ⟨k1, hk1⟩ : ∃ m : Nat, m = min n 300 := ⟨_, rfl⟩
  obtain ⟨k2, hk2⟩ : ∃ m : Nat, m = min n2 200 := ⟨_, rfl⟩
  obtain ⟨q, hqq⟩ : ∃ q : Nat, q = min s.size 2000 := ⟨_, rfl⟩
  have kmin : (if (300 : Int) < (n : Int) then (300 : Int) else (n : Int)) = (k1 : Int) := by split <;> omega
  have kmin1 : (if (200 : Int) < (n2 : Int) then (200 : Int) else (n2 : Int)) = (k2 : Int) := by split <;> omega
  have kmin2 : (if (2000 : Int) < (s.size : Int) then (2000 : Int) else (s.size : Int)) = (q : Int) := by split <;> omega
  have hcut := cut_to (P := Try.prog) 33 49 .i64 Try.underlying33 (info_parts infoE).choose_spec.1 A n c (k1 : Int) (by omega) (by omega) hn
  have hcut2 := cut_to (P := Try.prog) 42 51 .i64 Try.underlying42 (info_parts infoR).choose_spec.1 A2 n2 c2 (k2 : Int) (by omega) (by omega) hn2
  simp only [Int.toNat_natCast] at hcut hcut2
  have hq1 : (q : Int) ≤ (s.size : Int) := by omega
  have hq0 : (0 : Int) ≤ (q : Int) := by omega
  have hC := C_take hp k1 (by omega)
  have hC2 := C_take hp2 k2 (by omega)
  obtain ⟨ys, hys⟩ : ∃ ys, ys = xs.take k1 := ⟨_, rfl⟩
  obtain ⟨zs, hzs⟩ : ∃ ys, ys = xs2.take k2 := ⟨_, rfl⟩
  rw [← hys] at hC
  rw [← hzs] at hC2
  have hk1' : k1 ≤ 300 := by omega
  have hk2' : k2 ≤ 200 := by omega
  have hkc : k1 ≤ c := by omega
  have hkc2 : k2 ≤ c2 := by omega
  have HC := Lib.hid hC
  have HC2 := Lib.hid hC2
  have HYL := Lib.hid hC.1
  have HZL := Lib.hid hC2.1
  have hzl := hC2.1
  have HP2 := Lib.hid (fun W (h : Kd.C kE W A2 k2 zs) => (hzl ▸ putRoot_calls A2 c2 zs W (by omega) (by omega) (hzl.symm ▸ h) : Calls Try.prog 19 #[.slice A2 k2 c2] W fun e w' => ∃ v, e = .returned (.tuple #[v, .int .i64 (told (root zs)).2]) ∧ OB w' W.heap.size v (told (root zs)).1 ∧ Below W.heap.size W w'))
  obtain ⟨t, ht⟩ : ∃ t, t = s.extract 0 q := ⟨_, rfl⟩
  have htl : t.size ≤ 2000 := by rw [ht, ByteArray.size_extract]; omega
  have HT := Lib.hid ht.symm
  clear hzl hp hp2 hys hzs hC hC2 hk1 hk2 hqq ht hn hn2 hm hm2
  have kt := HT.out
  go_enter Try.func7, Try.ntmps7
  go_wp2_with fail
  have HBW0 := Lib.hid (Below.refl w.heap.size w)
  have hput46 := put_two A k1 c ys w hkc (by omega) (ents_of_C HC.out)
  obtain ⟨⟨L46, er46⟩, hL46⟩ : ∃ q, told (dir ys) = q := ⟨_, rfl⟩
  rw [hL46] at hput46
  simp only at hput46
  have Hput46 := Lib.hid hput46
  have Hc46 := Lib.hid (told_cases (dir ys) L46 er46 hL46 (dir_err ys))
  clear hput46 hL46
  refine Hput46.out.mono ?_; rintro e w1 ⟨v1, rfl, ho1, hb1⟩
  obtain ⟨A5, c5, rfl, hc5, hr5⟩ := ho1.slice
  have HB46 := Lib.hid (below_step HBW0.out hb1)
  have HR5 := Lib.hid hr5
  have HC5 := Lib.hid hc5
  clear ho1 hc5 hr5 hb1
  go_upto_if 46 with (fail)
  go_cut [] (fun W => Aside0 (Below w.heap.size w W))
  case first =>
    rcases Hc46.out with ⟨he, hd⟩ | he | he
    · subst he
      have Hget := Lib.hid (getDir_put ys L46 hd (by have := HYL.out; omega))
      have Hbb := Lib.hid (dir_bytes ys L46 (by have := HYL.out; omega) hd)
      have hbl := dir_longest ys L46 hd
      have hbl2 : L46.length ≤ 100000 := by have := HYL.out; omega
      have HG0 := get_region A5 c5 L46 w1 HR5.out HC5.out Hbb.out (by omega)
      rw [Hget.out] at HG0
      have HG := Lib.hid (getout HG0)
      have hyl := HYL.out
      have HYl := Lib.hid hyl
      clear hd hbl HG0
      go_wp2_with fail
      refine HG.out.mono ?_; rintro e w2 ⟨v2, rfl, hR2, hb2⟩
      obtain ⟨A6, c6, rfl, hc6, hC6⟩ := Kd.R_reads hR2
      have HB2 := Lib.hid (below_step HB46.out hb2)
      have HC6 := Lib.hid hC6
      clear hR2 hc6 hC6 hb2
      have hneq : ((ys.length : Int) == (k1 : Int)) = true := beq_iff_eq.mpr (by omega)
      have hneq2 : ((ys.length : Int) != (k1 : Int)) = false := by simp [hyl]
      have hnl : ys.length ≤ 1000 := by omega
      clear hyl
      go_wp2_with fail
      go_loopw [11] (fun iv W => ∃ j n : Nat, iv = .int .i64 (j : Int) ∧ j ≤ k1 ∧ W = w2.drewN n) (fun iv _ => k1 - (intOf iv).toNat)
      case atStart => exact ⟨0, 0, rfl, by omega, rfl⟩
      case round =>
        obtain ⟨j, n5, rfl, hj, rfl⟩ := hrel
        by_cases hlt : j < k1
        · have E1 := ents_of_C (Kd.C_below HC6.out (pw_below_drewN (Below.refl _ _) n5))
          have E2 := ents_of_C (Kd.C_below HC.out (pw_below_drewN HB2.out n5))
          obtain ⟨ad, rfl, x0, x1, x2, x3⟩ := E1.2 j (by rw [HYl.out]; exact hlt)
          obtain ⟨ae, e2, y0, y1, y2, y3⟩ := E2.2 j hlt
          obtain ⟨u, hu⟩ : ∃ u, u = ys.getD j E0 := ⟨_, rfl⟩
          rw [← hu] at x0 x1 x2 x3 y0 y1 y2 y3
          obtain ⟨u0, u1, u2, u3⟩ := u
          simp only at x0 x1 x2 x3 y0 y1 y2 y3
          subst e2
          have hd1 : decide ((j : Int) < (k1 : Int)) = true := decide_eq_true (by omega)
          have i3 : (j : Int) < ((k1 : Nat) : Int) := by omega
          have i4 : (j : Int) < (ys.length : Int) := by rw [HYl.out]; exact i3
          clear hu E1 E2
          go_wp2_with fail
          refine start_ (n := 9) (S := fun w' => w'.cell? (ad.add (j * 4)) = some (.int .i64 u0) ∧ w'.cell? ⟨(ad.add (j * 4)).block, (ad.add (j * 4)).off + 1, none⟩ = some (.int .i64 u1) ∧ w'.cell? ⟨(ad.add (j * 4)).block, (ad.add (j * 4)).off + 2, none⟩ = some (.int .i64 u2) ∧ w'.cell? ⟨(ad.add (j * 4)).block, (ad.add (j * 4)).off + 3, none⟩ = some (.int .i64 u3) ∧ w'.cell? (ae.add (j * 4)) = some (.int .i64 u0) ∧ w'.cell? ⟨(ae.add (j * 4)).block, (ae.add (j * 4)).off + 1, none⟩ = some (.int .i64 u1) ∧ w'.cell? ⟨(ae.add (j * 4)).block, (ae.add (j * 4)).off + 2, none⟩ = some (.int .i64 u2) ∧ w'.cell? ⟨(ae.add (j * 4)).block, (ae.add (j * 4)).off + 3, none⟩ = some (.int .i64 u3)) (ds := []) #[false, false, false, false, false, false, false, false, false] (by kernel_rfl) rfl rfl ⟨x0, x1, x2, x3, y0, y1, y2, y3⟩ (fun hHeld => ?_)
          refine pure_ (i := 0) (N := some 67) (v := ?_) (a' := ?_) #[true, false, false, false, false, false, false, false, false] rfl rfl (by kernel_rfl) (fun _ _ _ h => h) (Or.inl ⟨by rfl, ?_⟩) ?_ ?_
          rotate_left
          · intro w'
            go_simp
            with_reducible rfl
          rotate_left
          · simp only [Act.put, List.setIfInBounds_toArray, List.set_cons_zero, List.set_cons_succ, i64_w, i32_w]
            rfl
          refine pure_ (i := 1) (N := some 68) (v := ?_) (a' := ?_) #[true, true, false, false, false, false, false, false, false] rfl rfl (by kernel_rfl) (fun _ _ _ h => h) (Or.inl ⟨by rfl, ?_⟩) ?_ ?_
          rotate_left
          · intro w'
            go_simp
            with_reducible rfl
          rotate_left
          · simp only [Act.put, List.setIfInBounds_toArray, List.set_cons_zero, List.set_cons_succ, i64_w, i32_w]
            rfl
          refine pure_ (i := 2) (N := some 69) (v := ?_) (a' := ?_) #[true, true, true, false, false, false, false, false, false] rfl rfl (by kernel_rfl) (fun _ _ _ h => h) (Or.inl ⟨by rfl, ?_⟩) ?_ ?_
          rotate_left
          · intro w'
            go_simp
            with_reducible rfl
          rotate_left
          · simp only [Act.put, List.setIfInBounds_toArray, List.set_cons_zero, List.set_cons_succ, i64_w, i32_w]
            rfl
          refine pure_ (i := 4) (N := some 71) (v := ?_) (a' := ?_) #[true, true, true, false, true, false, false, false, false] rfl rfl (by kernel_rfl) (fun _ _ _ h => h) (Or.inl ⟨by rfl, ?_⟩) ?_ ?_
          rotate_left
          · intro w'
            go_simp
            with_reducible rfl
          rotate_left
          · simp only [Act.put, List.setIfInBounds_toArray, List.set_cons_zero, List.set_cons_succ, i64_w, i32_w]
            rfl
          refine pure_ (i := 5) (N := some 72) (v := ?_) (a' := ?_) #[true, true, true, false, true, true, false, false, false] rfl rfl (by kernel_rfl) (fun _ _ _ h => h) (Or.inl ⟨by rfl, ?_⟩) ?_ ?_
          rotate_left
          · intro w'
            go_simp
            with_reducible rfl
          rotate_left
          · simp only [Act.put, List.setIfInBounds_toArray, List.set_cons_zero, List.set_cons_succ, i64_w, i32_w]
            rfl
          refine pure_ (i := 6) (N := some 73) (v := ?_) (a' := ?_) #[true, true, true, false, true, true, true, false, false] rfl rfl (by kernel_rfl) (fun _ _ _ h => h) (Or.inl ⟨by rfl, ?_⟩) ?_ ?_
          rotate_left
          · intro w'
            go_simp
            with_reducible rfl
          rotate_left
          · simp only [Act.put, List.setIfInBounds_toArray, List.set_cons_zero, List.set_cons_succ, i64_w, i32_w]
            rfl
          refine take_ (i := 3) (N := some 70) (v := ?_) (a' := ?_) #[true, true, true, true, true, true, true, false, false] rfl rfl (by kernel_rfl) (fun _ _ _ h => h) (Or.inl ⟨by rfl, ?_⟩) hHeld ?_ ?_
          rotate_left
          · rintro w' ⟨s0, s1, s2, s3, s4, s5, s6, s7⟩
            go_simp
            with_reducible rfl
          rotate_left
          · simp only [Act.put, List.setIfInBounds_toArray, List.set_cons_zero, List.set_cons_succ, i64_w, i32_w]
            rfl
          refine take_ (i := 7) (N := some 74) (v := ?_) (a' := ?_) #[true, true, true, true, true, true, true, true, false] rfl rfl (by kernel_rfl) (fun _ _ _ h => h) (Or.inl ⟨by rfl, ?_⟩) hHeld ?_ ?_
          rotate_left
          · rintro w' ⟨s0, s1, s2, s3, s4, s5, s6, s7⟩
            go_simp
            with_reducible rfl
          rotate_left
          · simp only [Act.put, List.setIfInBounds_toArray, List.set_cons_zero, List.set_cons_succ, i64_w, i32_w]
            rfl
          refine pure_ (i := 8) (N := some 75) (v := ?_) (a' := ?_) #[true, true, true, true, true, true, true, true, true] rfl rfl (by kernel_rfl) (fun _ _ _ h => h) (Or.inl ⟨by rfl, ?_⟩) ?_ ?_
          rotate_left
          · intro w'
            go_simp
            with_reducible rfl
          rotate_left
          · simp only [Act.put, List.setIfInBounds_toArray, List.set_cons_zero, List.set_cons_succ, i64_w, i32_w]
            rfl
          refine done_ (by kernel_rfl) ?_
          clear hHeld
          go_wp2
          go_roundw
          case rel => exact ⟨j + 1, _, by go_num, by omega, rfl⟩
          case measure => simp [intOf]; omega
        · have hd1 : decide ((j : Int) < (k1 : Int)) = false := decide_eq_false (by omega)
          go_wp2_with fail
          go_meet
          exact ⟨pw_below_drewN HB2.out _⟩
    · subst he
      go_wp2_with fail
      go_meet
      exact ⟨HB46.out⟩
    · subst he
      go_wp2_with fail
      go_meet
      exact ⟨HB46.out⟩
  case rest =>
  obtain ⟨hbw46⟩ := hcut
  have HBW46 := Lib.hid hbw46
  clear hbw46
  try clear hcut
  obtain ⟨wA, rfl⟩ : ∃ W : World, W = wc := ⟨_, rfl⟩
  have HCa := Lib.hid (Kd.C_below HC2.out HBW46.out)
  go_wp2_with fail
  have hput82 := HP2.out wA HCa.out
  obtain ⟨⟨L82, er82⟩, hL82⟩ : ∃ q, told (root zs) = q := ⟨_, rfl⟩
  rw [hL82] at hput82
  simp only at hput82
  have Hput82 := Lib.hid hput82
  have Hc82 := Lib.hid (told_cases (root zs) L82 er82 hL82 (root_err zs))
  clear hput82 hL82
  refine Hput82.out.mono ?_; rintro e w1 ⟨v1, rfl, ho1, hb1⟩
  obtain ⟨A5, c5, rfl, hc5, hr5⟩ := ho1.slice
  have HB82 := Lib.hid (below_step HBW46.out hb1)
  have HR5 := Lib.hid hr5
  have HC5 := Lib.hid hc5
  clear ho1 hc5 hr5 hb1
  go_upto_if 82 with (fail)
  go_cut [] (fun W => Aside0 (Below w.heap.size w W))
  case first =>
    rcases Hc82.out with ⟨he, hd⟩ | he | he
    · subst he
      have Hget := Lib.hid (getRoot_put zs L82 hd (by have := HZL.out; omega))
      have Hbb := Lib.hid (root_bytes zs L82 (by have := HZL.out; omega) hd)
      have hbl := root_longest zs L82 hd
      have hbl2 : L82.length ≤ 100000 := by have := HZL.out; omega
      have HG0 := getroot_region A5 c5 L82 w1 HR5.out HC5.out Hbb.out (by omega)
      rw [Hget.out] at HG0
      have HG := Lib.hid (getout HG0)
      have hyl := HZL.out
      have HYl := Lib.hid hyl
      clear hd hbl HG0
      go_wp2_with fail
      refine HG.out.mono ?_; rintro e w2 ⟨v2, rfl, hR2, hb2⟩
      obtain ⟨A6, c6, rfl, hc6, hC6⟩ := Kd.R_reads hR2
      have HB2 := Lib.hid (below_step HB82.out hb2)
      have HC6 := Lib.hid hC6
      clear hR2 hc6 hC6 hb2
      have hneq : ((zs.length : Int) == (k2 : Int)) = true := beq_iff_eq.mpr (by omega)
      have hneq2 : ((zs.length : Int) != (k2 : Int)) = false := by simp [hyl]
      have hnl : zs.length ≤ 1000 := by omega
      clear hyl
      go_wp2_with fail
      go_loopw [16] (fun iv W => ∃ j n : Nat, iv = .int .i64 (j : Int) ∧ j ≤ k2 ∧ W = w2.drewN n) (fun iv _ => k2 - (intOf iv).toNat)
      case atStart => exact ⟨0, 0, rfl, by omega, rfl⟩
      case round =>
        obtain ⟨j, n5, rfl, hj, rfl⟩ := hrel
        by_cases hlt : j < k2
        · have E1 := ents_of_C (Kd.C_below HC6.out (pw_below_drewN (Below.refl _ _) n5))
          have E2 := ents_of_C (Kd.C_below HC2.out (pw_below_drewN HB2.out n5))
          obtain ⟨ad, rfl, x0, x1, x2, x3⟩ := E1.2 j (by rw [HYl.out]; exact hlt)
          obtain ⟨ae, e2, y0, y1, y2, y3⟩ := E2.2 j hlt
          obtain ⟨u, hu⟩ : ∃ u, u = zs.getD j E0 := ⟨_, rfl⟩
          rw [← hu] at x0 x1 x2 x3 y0 y1 y2 y3
          obtain ⟨u0, u1, u2, u3⟩ := u
          simp only at x0 x1 x2 x3 y0 y1 y2 y3
          subst e2
          have hd1 : decide ((j : Int) < (k2 : Int)) = true := decide_eq_true (by omega)
          have i3 : (j : Int) < ((k2 : Nat) : Int) := by omega
          have i4 : (j : Int) < (zs.length : Int) := by rw [HYl.out]; exact i3
          clear hu E1 E2
          go_wp2_with fail
          refine start_ (n := 9) (S := fun w' => w'.cell? (ad.add (j * 4)) = some (.int .i64 u0) ∧ w'.cell? ⟨(ad.add (j * 4)).block, (ad.add (j * 4)).off + 1, none⟩ = some (.int .i64 u1) ∧ w'.cell? ⟨(ad.add (j * 4)).block, (ad.add (j * 4)).off + 2, none⟩ = some (.int .i64 u2) ∧ w'.cell? ⟨(ad.add (j * 4)).block, (ad.add (j * 4)).off + 3, none⟩ = some (.int .i64 u3) ∧ w'.cell? (ae.add (j * 4)) = some (.int .i64 u0) ∧ w'.cell? ⟨(ae.add (j * 4)).block, (ae.add (j * 4)).off + 1, none⟩ = some (.int .i64 u1) ∧ w'.cell? ⟨(ae.add (j * 4)).block, (ae.add (j * 4)).off + 2, none⟩ = some (.int .i64 u2) ∧ w'.cell? ⟨(ae.add (j * 4)).block, (ae.add (j * 4)).off + 3, none⟩ = some (.int .i64 u3)) (ds := []) #[false, false, false, false, false, false, false, false, false] (by kernel_rfl) rfl rfl ⟨x0, x1, x2, x3, y0, y1, y2, y3⟩ (fun hHeld => ?_)
          refine pure_ (i := 0) (N := some 103) (v := ?_) (a' := ?_) #[true, false, false, false, false, false, false, false, false] rfl rfl (by kernel_rfl) (fun _ _ _ h => h) (Or.inl ⟨by rfl, ?_⟩) ?_ ?_
          rotate_left
          · intro w'
            go_simp
            with_reducible rfl
          rotate_left
          · simp only [Act.put, List.setIfInBounds_toArray, List.set_cons_zero, List.set_cons_succ, i64_w, i32_w]
            rfl
          refine pure_ (i := 1) (N := some 104) (v := ?_) (a' := ?_) #[true, true, false, false, false, false, false, false, false] rfl rfl (by kernel_rfl) (fun _ _ _ h => h) (Or.inl ⟨by rfl, ?_⟩) ?_ ?_
          rotate_left
          · intro w'
            go_simp
            with_reducible rfl
          rotate_left
          · simp only [Act.put, List.setIfInBounds_toArray, List.set_cons_zero, List.set_cons_succ, i64_w, i32_w]
            rfl
          refine pure_ (i := 2) (N := some 105) (v := ?_) (a' := ?_) #[true, true, true, false, false, false, false, false, false] rfl rfl (by kernel_rfl) (fun _ _ _ h => h) (Or.inl ⟨by rfl, ?_⟩) ?_ ?_
          rotate_left
          · intro w'
            go_simp
            with_reducible rfl
          rotate_left
          · simp only [Act.put, List.setIfInBounds_toArray, List.set_cons_zero, List.set_cons_succ, i64_w, i32_w]
            rfl
          refine pure_ (i := 4) (N := some 107) (v := ?_) (a' := ?_) #[true, true, true, false, true, false, false, false, false] rfl rfl (by kernel_rfl) (fun _ _ _ h => h) (Or.inl ⟨by rfl, ?_⟩) ?_ ?_
          rotate_left
          · intro w'
            go_simp
            with_reducible rfl
          rotate_left
          · simp only [Act.put, List.setIfInBounds_toArray, List.set_cons_zero, List.set_cons_succ, i64_w, i32_w]
            rfl
          refine pure_ (i := 5) (N := some 108) (v := ?_) (a' := ?_) #[true, true, true, false, true, true, false, false, false] rfl rfl (by kernel_rfl) (fun _ _ _ h => h) (Or.inl ⟨by rfl, ?_⟩) ?_ ?_
          rotate_left
          · intro w'
            go_simp
            with_reducible rfl
          rotate_left
          · simp only [Act.put, List.setIfInBounds_toArray, List.set_cons_zero, List.set_cons_succ, i64_w, i32_w]
            rfl
          refine pure_ (i := 6) (N := some 109) (v := ?_) (a' := ?_) #[true, true, true, false, true, true, true, false, false] rfl rfl (by kernel_rfl) (fun _ _ _ h => h) (Or.inl ⟨by rfl, ?_⟩) ?_ ?_
          rotate_left
          · intro w'
            go_simp
            with_reducible rfl
          rotate_left
          · simp only [Act.put, List.setIfInBounds_toArray, List.set_cons_zero, List.set_cons_succ, i64_w, i32_w]
            rfl
          refine take_ (i := 3) (N := some 106) (v := ?_) (a' := ?_) #[true, true, true, true, true, true, true, false, false] rfl rfl (by kernel_rfl) (fun _ _ _ h => h) (Or.inl ⟨by rfl, ?_⟩) hHeld ?_ ?_
          rotate_left
          · rintro w' ⟨s0, s1, s2, s3, s4, s5, s6, s7⟩
            go_simp
            with_reducible rfl
          rotate_left
          · simp only [Act.put, List.setIfInBounds_toArray, List.set_cons_zero, List.set_cons_succ, i64_w, i32_w]
            rfl
          refine take_ (i := 7) (N := some 110) (v := ?_) (a' := ?_) #[true, true, true, true, true, true, true, true, false] rfl rfl (by kernel_rfl) (fun _ _ _ h => h) (Or.inl ⟨by rfl, ?_⟩) hHeld ?_ ?_
          rotate_left
          · rintro w' ⟨s0, s1, s2, s3, s4, s5, s6, s7⟩
            go_simp
            with_reducible rfl
          rotate_left
          · simp only [Act.put, List.setIfInBounds_toArray, List.set_cons_zero, List.set_cons_succ, i64_w, i32_w]
            rfl
          refine pure_ (i := 8) (N := some 111) (v := ?_) (a' := ?_) #[true, true, true, true, true, true, true, true, true] rfl rfl (by kernel_rfl) (fun _ _ _ h => h) (Or.inl ⟨by rfl, ?_⟩) ?_ ?_
          rotate_left
          · intro w'
            go_simp
            with_reducible rfl
          rotate_left
          · simp only [Act.put, List.setIfInBounds_toArray, List.set_cons_zero, List.set_cons_succ, i64_w, i32_w]
            rfl
          refine done_ (by kernel_rfl) ?_
          clear hHeld
          go_wp2
          go_roundw
          case rel => exact ⟨j + 1, _, by go_num, by omega, rfl⟩
          case measure => simp [intOf]; omega
        · have hd1 : decide ((j : Int) < (k2 : Int)) = false := decide_eq_false (by omega)
          go_wp2_with fail
          go_meet
          exact ⟨pw_below_drewN HB2.out _⟩
    · subst he
      go_wp2_with fail
      go_meet
      exact ⟨HB82.out⟩
    · subst he
      go_wp2_with fail
      go_meet
      exact ⟨HB82.out⟩
  case rest =>
  obtain ⟨hbw82⟩ := hcut
  have HBW82 := Lib.hid hbw82
  clear hbw82
  try clear hcut
  obtain ⟨wB, rfl⟩ : ∃ W : World, W = wc := ⟨_, rfl⟩
  have HBW119p := Lib.hid HBW82.out
  have kb := bytes_run t
  have HG3 := Lib.hid ((dirstr t wB (by omega)).mono fun e w' h => got_two h)
  obtain ⟨l3, hl3⟩ : ∃ l, l = (getDir (bytesOf t)).getD [] := ⟨_, rfl⟩
  obtain ⟨y3, hy3⟩ : ∃ y, y = errOf (getDir (bytesOf t)) := ⟨_, rfl⟩
  have Hc3 := Lib.hid (show (y3 = 0 ∧ dir l3 = .ok (bytesOf t) ∧ l3.length ≤ 100000) ∨ y3 = 4 by
    rcases errOf_two (getDir (bytesOf t)) with ⟨h1, l', h2⟩ | ⟨h1, h2⟩
    · exact .inl ⟨by rw [hy3, h1], by rw [hl3, h2]; exact getDir_order _ _ h2, by rw [hl3, h2]; exact Nat.le_trans (getDir_len _ _ h2) (by first | decide | (rw [bytesOf_length]; omega))⟩
    · exact .inr (by rw [hy3, h1]))
  rw [← hl3, ← hy3] at HG3
  clear hl3 hy3
  go_wp2_with fail
  refine HG3.out.mono ?_; rintro e w3 ⟨v3, rfl, hR3, hb3⟩
  obtain ⟨A7, c7, rfl, hc7, hC7⟩ := Kd.R_reads hR3
  have HB3 := Lib.hid (below_step HBW119p.out hb3)
  have HC7 := Lib.hid hC7
  have Hc7 := Lib.hid hc7
  clear hR3 hc7 hC7 hb3 kb
  go_upto_if 119 with (fail)
  go_cut [] (fun W => Aside0 (Below w.heap.size w W))
  case first =>
    rcases Hc3.out with ⟨he, hd, hlen⟩ | he
    · subst he
      have hput := put_two A7 l3.length c7 l3 w3 Hc7.out (by omega) (ents_of_C HC7.out)
      rw [hd] at hput
      simp only [told] at hput
      have Hput := Lib.hid hput
      have ET := Lib.hid (BS.str_bytesOf t)
      clear hput hd
      go_wp2_with fail
      refine Hput.out.mono ?_; rintro e w4 ⟨v4, rfl, ho4, hb4⟩
      obtain ⟨A8, c8, rfl, hc8, hr8⟩ := ho4.slice
      have HB4 := Lib.hid (below_step HB3.out hb4)
      have kz := hcv24 (c := c8) hr8
      rw [ET.out] at kz
      have eT := BS.beq_same t
      clear ho4 hc8 hr8 hb4
      go_wp2_with fail
      go_meet
      exact ⟨HB4.out⟩
    · subst he
      go_wp2_with fail
      go_meet
      exact ⟨HB3.out⟩
  case rest =>
  obtain ⟨hbw119⟩ := hcut
  have HBW119 := Lib.hid hbw119
  clear hbw119
  try clear hcut
  obtain ⟨wC, rfl⟩ : ∃ W : World, W = wc := ⟨_, rfl⟩
  have HBW140p := Lib.hid HBW119.out
  have kb := bytes_run t
  have HG4 := Lib.hid ((rootstr t wC (by omega)).mono fun e w' h => got_two h)
  obtain ⟨l4, hl4⟩ : ∃ l, l = (getRoot (bytesOf t)).getD [] := ⟨_, rfl⟩
  obtain ⟨y4, hy4⟩ : ∃ y, y = errOf (getRoot (bytesOf t)) := ⟨_, rfl⟩
  have Hc4 := Lib.hid (show (y4 = 0 ∧ root l4 = .ok (bytesOf t) ∧ l4.length ≤ 100000) ∨ y4 = 4 by
    rcases errOf_two (getRoot (bytesOf t)) with ⟨h1, l', h2⟩ | ⟨h1, h2⟩
    · exact .inl ⟨by rw [hy4, h1], by rw [hl4, h2]; exact getRoot_order _ _ h2, by rw [hl4, h2]; exact Nat.le_trans (getRoot_len _ _ h2) (by first | decide | (rw [bytesOf_length]; omega))⟩
    · exact .inr (by rw [hy4, h1]))
  rw [← hl4, ← hy4] at HG4
  clear hl4 hy4
  go_wp2_with fail
  refine HG4.out.mono ?_; rintro e w3 ⟨v3, rfl, hR3, hb3⟩
  obtain ⟨A7, c7, rfl, hc7, hC7⟩ := Kd.R_reads hR3
  have HB4 := Lib.hid (below_step HBW140p.out hb3)
  have HC7 := Lib.hid hC7
  have Hc7 := Lib.hid hc7
  clear hR3 hc7 hC7 hb3 kb
  go_upto_if 140 with (fail)
  go_cut [] (fun W => Aside0 (Below w.heap.size w W))
  case first =>
    rcases Hc4.out with ⟨he, hd, hlen⟩ | he
    · subst he
      have hput := putRoot_calls A7 c7 l4 w3 Hc7.out (by omega) HC7.out
      rw [hd] at hput
      simp only [told] at hput
      have Hput := Lib.hid hput
      have ET := Lib.hid (BS.str_bytesOf t)
      clear hput hd
      go_wp2_with fail
      refine Hput.out.mono ?_; rintro e w4 ⟨v4, rfl, ho4, hb4⟩
      obtain ⟨A8, c8, rfl, hc8, hr8⟩ := ho4.slice
      have HB4 := Lib.hid (below_step HB4.out hb4)
      have kz := hcv24 (c := c8) hr8
      rw [ET.out] at kz
      have eT := BS.beq_same t
      clear ho4 hc8 hr8 hb4
      go_wp2_with fail
      go_meet
      exact ⟨HB4.out⟩
    · subst he
      go_wp2_with fail
      go_meet
      exact ⟨HB4.out⟩
  case rest =>
  obtain ⟨hbw140⟩ := hcut
  have HBW140 := Lib.hid hbw140
  clear hbw140
  try clear hcut
  go_wp2_with fail
  refine (works24 _).mono ?_; rintro e w6 ⟨rfl, hb6⟩
  have HB6 := Lib.hid (below_step HBW140.out hb6)
  clear hb6
  go_wp2
  go_ret
  exact ⟨rfl, HB6.out⟩
theorem againWalk {H : Type} {enc : TypeId × Value → H} {Q : Prop} (v : Value) (d : DataW H) (p : List MemPlace) (v1 : Value) (d1 : DataW H) (p1 : List MemPlace) (s : ByteArray) (w : World) {base base1 : Nat} {held held1 : Bool} {r r1 : Reach} {b0 b1 : Nat}
    (hv : Value.okWide Try.prog w r b0 33 v) (h : DataW.Trod enc Try.prog w base (fun _ => true) held 33 v d p) (hv1 : Value.okWide Try.prog w r1 b1 42 v1) (h1 : DataW.Trod enc Try.prog w base1 (fun _ => true) held1 42 v1 d1 p1) (hs : s.size ≤ 140737488351232) (hq : Q) :
    Calls Try.prog 7 #[v, v1, .string s] w fun e w' => e = .returned (.bool true) ∧ Below w.heap.size w w' := by
  obtain ⟨A, n, c, xs, rfl, hn, hm, hp, _⟩ := open_ents Try.underlying33 Try.underlying49 (by kernel_rfl) (by kernel_rfl) Try.underlying3 Try.underlying3 Try.underlying3 Try.underlying2 hv h
  obtain ⟨A2, n2, c2, xs2, rfl, hn2, hm2, hp2, _⟩ := open_ents Try.underlying42 Try.underlying51 (by kernel_rfl) (by kernel_rfl) Try.underlying3 Try.underlying3 Try.underlying3 Try.underlying3 hv1 h1
  exact againLaw A n c xs A2 n2 c2 xs2 s w hn hm hp hn2 hm2 hp2
end Go.Proofs.Ytijjecnmdhefbaa.RG
