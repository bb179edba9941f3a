/- The own texts that the statement RunsGet leans on: RunsGet, RunsLaw, RunsBack, FirstP, FirstF, RunsRefP, RunsGetLaw. -/
import Derived.Test.YtijdjpcmndjbcaaARunsGet
import Derived.Outline
import Derived.Deep.RegionHeld3
import Derived.DataShut
import Derived.Test.YtijdjpcmndjbcaaPRunsGetx2
namespace Go.Proofs.Ytijdjpcmndjbcaa.RU
open Go.RowKit Go.Proofs.YtijdjpcmndjbcaaW.PrintWords Go.Proofs.YtijdjpcmndjbcaaW.PrintLast Go.Proofs.YtijdjpcmndjbcaaW.PrintMore Go.Proofs.Ytijdjpcmndjbcaa.CD Go.Proofs.Ytijdjpcmndjbcaa.BR
set_option linter.unusedVariables false
set_option linter.unusedSimpArgs false
/-- A number and a byte behind it, or the reader breaks. -/
theorem two_bad (X : List Int) (h : (dec X).2 = 0 ∨ X.length ≤ (dec X).2) : (rTake (rNum (X, false)).2 1).2.2 = true := by
  unfold rNum
  simp only [Bool.false_eq_true, if_false]
  by_cases h0 : (dec X).2 = 0
  · rw [if_pos h0]; simp [rTake]
  · rw [if_neg h0]
    simp only [rTake, Bool.false_eq_true, if_false, List.length_drop]
    rw [if_pos (by right; omega)]
theorem two_ok (X : List Int) (h0 : (dec X).2 ≠ 0) (h1 : (dec X).2 < X.length) : rNum (X, false) = ((dec X).1, (X.drop (dec X).2, false)) ∧ rTake (X.drop (dec X).2, false) 1 = ([X.getD (dec X).2 0], (X.drop ((dec X).2 + 1), false)) := by
  constructor
  · unfold rNum
    simp only [Bool.false_eq_true, if_false]
    rw [if_neg h0]
  · simp only [rTake, Bool.false_eq_true, if_false, List.length_drop]
    rw [if_neg (by omega)]
    simp only [Int.toNat_one, List.drop_drop]
    rw [List.drop_eq_getElem_cons h1, List.getD_eq_getElem?_getD, List.getElem?_eq_getElem h1]
    rfl
theorem rd_nat (l : List Int) (k : Nat) : rd l (k : Int) = l.getD k 0 := rfl
theorem byte_of (b : Int) (h0 : 0 ≤ b) (h1 : b < 256) : ∃ u : UInt8, (u.toNat : Int) = b := by
  refine ⟨UInt8.ofNat b.toNat, ?_⟩
  rw [UInt8.toNat_ofNat']
  omega
theorem last_rd (l : List Int) (h : 0 < l.length) : l.getLast? = some (rd l ((l.length : Int) - 1)) := by
  rw [List.getLast?_eq_getElem?, show (l.length : Int) - 1 = ((l.length - 1 : Nat) : Int) by omega, rd_nat, List.getD_eq_getElem?_getD, List.getElem?_eq_getElem (by omega)]
  rfl
/-- What Get answers. -/
def Gets (o : Option (List Int × List Int)) (len : Nat) (w : World) (e : Ending) (w' : World) : Prop :=
  (match o with
  | none => e = .returned (.tuple #[.slice none 0 0, .int .i64 0, .int .i64 4])
  | some (l, rest) => ∃ v, e = .returned (.tuple #[v, .int .i64 ((len : Int) - (rest.length : Int)), .int .i64 0]) ∧ OB w' w.heap.size v l) ∧ Below w.heap.size w w'
set_option maxHeartbeats 4000000 in
set_option maxRecDepth 100000 in
theorem rget_arg (A : Option Addr) (c k : Nat) (n : Int) (w : World) (hn : n < 0 ∨ 65536 < n) :
    Calls Try.prog 8 #[.slice A k c, .int .i64 n] w fun e w' => e = .returned (.tuple #[.slice none 0 0, .int .i64 0, .int .i64 2]) ∧ w' = w := by
  by_cases h : n < 0
  · have hd := decide_eq_true h
    clear hn
    go_enter Try.func8, Try.ntmps8
    go_wp2
    go_ret3
    exact ⟨rfl, rfl⟩
  · have hd := decide_eq_false h
    have hd2 := decide_eq_true (show 65536 < n by omega)
    clear hn
    go_enter Try.func8, Try.ntmps8
    go_wp2
    go_ret3
    exact ⟨rfl, rfl⟩
set_option maxHeartbeats 4000000 in
set_option maxRecDepth 100000 in
theorem rget_calls (A : Option Addr) (c n : Nat) (X : List Int) (w : World) (hr : ReadsInt w .u8 A X.length X) (hc : X.length ≤ c) (hb : Bytes X) (hs : X.length ≤ 140737488355328) (hn : n ≤ 65536) :
    Calls Try.prog 8 #[.slice A X.length c, .int .i64 (n : Int)] w (Gets (getG (n + 1) n X []) X.length w) := by
  have HN := Lib.hid (BQ.new_calls A c X w hr hc hb hs)
  obtain ⟨G, hG⟩ : ∃ G, G = getG (n + 1) n X [] := ⟨_, rfl⟩
  rw [← hG]
  have HG := Lib.hid hG
  have hn1 := decide_eq_false (show ¬ (n : Int) < 0 by omega)
  have hn2 := decide_eq_false (show ¬ (65536 : Int) < (n : Int) by omega)
  clear hr hc hb hG
  go_enter Try.func8, Try.ntmps8
  go_wp2_with fail
  refine HN.out.mono ?_; rintro e w1 ⟨g, rfl, hg, hr1, hb1⟩
  have HR1 := Lib.hid hr1
  have HB1 := Lib.hid hb1
  have hgl := hr1.lt
  clear hr1 hb1
  go_wp2_with fail
  go_loopg [8] (n : Nat) (fun gq lv W => ∃ (acc xs : List Int) (f : Nat), Aside0 (OB W (g + 1) lv acc) ∧ Aside0 (BQ.Rdr (fun k => w.heap.size ≤ k ∧ k < g) W g xs false) ∧ Aside0 (G = getG f n xs acc) ∧ n - acc.length < f ∧ acc.length ≤ n ∧ n - acc.length ≤ gq ∧ xs.length ≤ X.length ∧ Aside0 (Below w.heap.size w W))
  case atStart => exact ⟨[], X, n + 1, ⟨own_nil _ _ _ _⟩, ⟨HR1.out⟩, ⟨HG.out⟩, by simp, by simp, by simp, Nat.le_refl _, ⟨HB1.out⟩⟩
  case round =>
    obtain ⟨acc, xs, f, ⟨ho⟩, ⟨hrd⟩, ⟨hG⟩, hf, hal, hgq, hxl, ⟨hB⟩⟩ := hrel
    obtain ⟨A6, c6, rfl, hc6, hr6⟩ := OB.slice ho
    have HO := Lib.hid ho
    have HRd := Lib.hid hrd
    have HGj := Lib.hid hG
    have HB := Lib.hid hB
    have HBy := Lib.hid hrd.bytes
    clear ho hrd hG hB hr6
    obtain ⟨f, rfl⟩ : ∃ q, f = q + 1 := ⟨f - 1, by omega⟩
    by_cases hlt : acc.length < n
    · have hd := decide_eq_true (show (acc.length : Int) < (n : Int) by omega)
      go_wp2_with fail
      refine (BQ.num_calls g xs false _ HRd.out).mono ?_; rintro e w2 ⟨rfl, hr2, hg2⟩
      obtain ⟨⟨mm, xs1, br1⟩, h1⟩ : ∃ q, rNum (xs, false) = q := ⟨_, rfl⟩
      rw [h1] at hr2 ⊢
      simp only at hr2 ⊢
      have H1 := Lib.hid h1
      have HR2 := Lib.hid hr2
      have HO2 := Lib.hid (HO.out.grown hg2 (fun e => by have := own_base HO.out _ e; omega))
      have HB2 := Lib.hid (belowg HB.out hg2 HB.out.size hg)
      have hs2 : wr.heap.size ≤ w2.heap.size := hg2.size
      clear h1 hr2 hg2
      go_wp2_with fail
      refine (BQ.take_calls g xs1 br1 1 _ HR2.out).mono ?_; rintro e w3 ⟨v3, rfl, ho3, hr3, hg3⟩
      obtain ⟨⟨t, xs2, br2⟩, h2⟩ : ∃ q, rTake (xs1, br1) 1 = q := ⟨_, rfl⟩
      rw [h2] at ho3 hr3
      simp only at ho3 hr3
      have H2 := Lib.hid h2
      have HT := Lib.hid ho3
      have HR3 := Lib.hid hr3
      have HO3 := Lib.hid (HO2.out.grown hg3 (fun e => by have := own_base HO.out _ e; omega))
      have HB3 := Lib.hid (belowg HB2.out hg3 HB2.out.size hg)
      have hs3 : w2.heap.size ≤ w3.heap.size := hg3.size
      have hgl3 : g < w3.heap.size := hr3.lt
      clear h2 ho3 hr3 hg3
      by_cases hbr : (dec xs).2 = 0 ∨ xs.length ≤ (dec xs).2
      · have e2 : br2 = true := by have := two_bad xs hbr; rw [H1.out] at this; simp only at this; rw [H2.out] at this; exact this
        subst e2
        have HF := Lib.hid (show G = none by rw [HGj.out]; exact getG_bad _ _ _ _ hlt (decide_eq_true (by rcases hbr with h | h; exact .inl h; exact .inr (.inl h))))
        clear hbr
        go_wp2_with fail
        refine start_ (n := 33) (S := fun w' => BQ.Rdr (fun k => w.heap.size ≤ k ∧ k < g) w' g xs2 true) (ds := []) #[false, false, false, false, false, false, false, false, false, false, false, false, false, false, false, false, false, false, false, false, false, false, false, false, false, false, false, false, false, false, false, false, false] (by kernel_rfl) rfl rfl (HR3.out.drewN 1) (fun hHeld => ?_)
        refine pure_ (i := 0) (N := some 27) (v := ?_) (a' := ?_) #[true, false, false, false, false, false, false, false, false, false, false, false, false, false, false, false, false, false, false, false, false, false, false, false, false, false, false, false, false, false, false, false, false] rfl rfl (by kernel_rfl) (fun _ _ _ h => h) (Or.inl ⟨by rfl, ?_⟩) ?_ ?_
        rotate_left
        · intro w'
          go_simp
          with_reducible rfl
        rotate_left
        · simp only [Act.put, List.setIfInBounds_toArray, List.set_cons_zero, List.set_cons_succ, i64_w, i32_w]
          rfl
        refine one_ (i := 1) (N := some 28) #[true, true, false, false, false, false, false, false, false, false, false, false, false, false, false, false, false, false, false, false, false, false, false, false, false, false, false, false, false, false, false, false, false] rfl rfl (by kernel_rfl) (by decide) (fun K hK => ?_)
        refine goes_ Try.func17 (by kernel_rfl) rfl #[.pointer (some ⟨g, 0, none⟩)] (by rfl) rfl rfl (by simp only [List.map_toArray, List.map_cons, List.map_nil]; rfl) ?_
        with_reducible refine (BQ.err_calls g xs2 true _ hHeld).mono ?_
        rintro e w4 ⟨rfl, ⟨n4, rfl⟩⟩
        refine ⟨_, rfl, ?_⟩
        refine hK.out _ _ (hHeld.drewN _) (fun hHeld => ?_)
        clear hK K
        refine norm_ (a' := ?_) ?_ ?_
        rotate_left
        · show Act.put _ (some 28) _ = _
          simp only [Act.put, List.setIfInBounds_toArray, List.set_cons_zero, List.set_cons_succ, i64_w, i32_w]
          rfl
        refine pure_ (i := 2) (N := some 29) (v := ?_) (a' := ?_) #[true, true, true, false, false, false, false, false, false, false, false, false, false, false, false, false, false, false, false, false, false, false, false, false, false, false, false, false, false, false, false, false, false] rfl rfl (by kernel_rfl) (fun _ _ _ h => h) (Or.inl ⟨by rfl, ?_⟩) ?_ ?_
        rotate_left
        · intro w'
          go_simp
          with_reducible rfl
        rotate_left
        · simp only [Act.put, List.setIfInBounds_toArray, List.set_cons_zero, List.set_cons_succ, i64_w, i32_w]
          rfl
        refine pure_ (i := 3) (N := some 30) (v := ?_) (a' := ?_) #[true, true, true, true, false, false, false, false, false, false, false, false, false, false, false, false, false, false, false, false, false, false, false, false, false, false, false, false, false, false, false, false, false] rfl rfl (by kernel_rfl) (fun _ _ _ h => h) (Or.inl ⟨by rfl, ?_⟩) ?_ ?_
        rotate_left
        · intro w'
          go_simp
          with_reducible rfl
        rotate_left
        · simp only [Act.put, List.setIfInBounds_toArray, List.set_cons_zero, List.set_cons_succ, i64_w, i32_w]
          rfl
        refine pure_ (i := 4) (N := some 31) (v := undef) (a' := ?_) #[true, true, true, true, true, false, false, false, false, false, false, false, false, false, false, false, false, false, false, false, false, false, false, false, false, false, false, false, false, false, false, false, false] rfl rfl (by kernel_rfl) (fun _ _ _ h => h) (Or.inr ⟨by rfl, rfl⟩) ?_ ?_
        rotate_left
        · simp only [Act.put, List.setIfInBounds_toArray, List.set_cons_zero, List.set_cons_succ, i64_w, i32_w]
          rfl
        refine pure_ (i := 5) (N := some 32) (v := undef) (a' := ?_) #[true, true, true, true, true, true, false, false, false, false, false, false, false, false, false, false, false, false, false, false, false, false, false, false, false, false, false, false, false, false, false, false, false] rfl rfl (by kernel_rfl) (fun _ _ _ h => h) (Or.inr ⟨by rfl, rfl⟩) ?_ ?_
        rotate_left
        · simp only [Act.put, List.setIfInBounds_toArray, List.set_cons_zero, List.set_cons_succ, i64_w, i32_w]
          rfl
        refine pure_ (i := 6) (N := some 33) (v := ?_) (a' := ?_) #[true, true, true, true, true, true, true, false, false, false, false, false, false, false, false, false, false, false, false, false, false, false, false, false, false, false, false, false, false, false, false, false, false] rfl rfl (by kernel_rfl) (fun _ _ _ h => h) (Or.inl ⟨by rfl, ?_⟩) ?_ ?_
        rotate_left
        · intro w'
          go_simp
          with_reducible rfl
        rotate_left
        · simp only [Act.put, List.setIfInBounds_toArray, List.set_cons_zero, List.set_cons_succ, i64_w, i32_w]
          rfl
        refine pure_ (i := 7) (N := some 34) (v := ?_) (a' := ?_) #[true, true, true, true, true, true, true, true, false, false, false, false, false, false, false, false, false, false, false, false, false, false, false, false, false, false, false, false, false, false, false, false, false] rfl rfl (by kernel_rfl) (fun _ _ _ h => h) (Or.inl ⟨by rfl, ?_⟩) ?_ ?_
        rotate_left
        · intro w'
          go_simp
          with_reducible rfl
        rotate_left
        · simp only [Act.put, List.setIfInBounds_toArray, List.set_cons_zero, List.set_cons_succ, i64_w, i32_w]
          rfl
        refine pure_ (i := 8) (N := some 35) (v := undef) (a' := ?_) #[true, true, true, true, true, true, true, true, true, false, false, false, false, false, false, false, false, false, false, false, false, false, false, false, false, false, false, false, false, false, false, false, false] rfl rfl (by kernel_rfl) (fun _ _ _ h => h) (Or.inr ⟨by rfl, rfl⟩) ?_ ?_
        rotate_left
        · simp only [Act.put, List.setIfInBounds_toArray, List.set_cons_zero, List.set_cons_succ, i64_w, i32_w]
          rfl
        refine pure_ (i := 9) (N := some 36) (v := undef) (a' := ?_) #[true, true, true, true, true, true, true, true, true, true, false, false, false, false, false, false, false, false, false, false, false, false, false, false, false, false, false, false, false, false, false, false, false] rfl rfl (by kernel_rfl) (fun _ _ _ h => h) (Or.inr ⟨by rfl, rfl⟩) ?_ ?_
        rotate_left
        · simp only [Act.put, List.setIfInBounds_toArray, List.set_cons_zero, List.set_cons_succ, i64_w, i32_w]
          rfl
        refine pure_ (i := 10) (N := some 37) (v := undef) (a' := ?_) #[true, true, true, true, true, true, true, true, true, true, true, false, false, false, false, false, false, false, false, false, false, false, false, false, false, false, false, false, false, false, false, false, false] rfl rfl (by kernel_rfl) (fun _ _ _ h => h) (Or.inr ⟨by rfl, rfl⟩) ?_ ?_
        rotate_left
        · simp only [Act.put, List.setIfInBounds_toArray, List.set_cons_zero, List.set_cons_succ, i64_w, i32_w]
          rfl
        refine pure_ (i := 11) (N := some 38) (v := undef) (a' := ?_) #[true, true, true, true, true, true, true, true, true, true, true, true, false, false, false, false, false, false, false, false, false, false, false, false, false, false, false, false, false, false, false, false, false] rfl rfl (by kernel_rfl) (fun _ _ _ h => h) (Or.inr ⟨by rfl, rfl⟩) ?_ ?_
        rotate_left
        · simp only [Act.put, List.setIfInBounds_toArray, List.set_cons_zero, List.set_cons_succ, i64_w, i32_w]
          rfl
        refine pure_ (i := 12) (N := some 39) (v := undef) (a' := ?_) #[true, true, true, true, true, true, true, true, true, true, true, true, true, false, false, false, false, false, false, false, false, false, false, false, false, false, false, false, false, false, false, false, false] rfl rfl (by kernel_rfl) (fun _ _ _ h => h) (Or.inr ⟨by rfl, rfl⟩) ?_ ?_
        rotate_left
        · simp only [Act.put, List.setIfInBounds_toArray, List.set_cons_zero, List.set_cons_succ, i64_w, i32_w]
          rfl
        refine pure_ (i := 13) (N := some 40) (v := undef) (a' := ?_) #[true, true, true, true, true, true, true, true, true, true, true, true, true, true, false, false, false, false, false, false, false, false, false, false, false, false, false, false, false, false, false, false, false] rfl rfl (by kernel_rfl) (fun _ _ _ h => h) (Or.inr ⟨by rfl, rfl⟩) ?_ ?_
        rotate_left
        · simp only [Act.put, List.setIfInBounds_toArray, List.set_cons_zero, List.set_cons_succ, i64_w, i32_w]
          rfl
        refine pure_ (i := 14) (N := some 41) (v := undef) (a' := ?_) #[true, true, true, true, true, true, true, true, true, true, true, true, true, true, true, false, false, false, false, false, false, false, false, false, false, false, false, false, false, false, false, false, false] rfl rfl (by kernel_rfl) (fun _ _ _ h => h) (Or.inr ⟨by rfl, rfl⟩) ?_ ?_
        rotate_left
        · simp only [Act.put, List.setIfInBounds_toArray, List.set_cons_zero, List.set_cons_succ, i64_w, i32_w]
          rfl
        refine pure_ (i := 15) (N := some 42) (v := ?_) (a' := ?_) #[true, true, true, true, true, true, true, true, true, true, true, true, true, true, true, true, false, false, false, false, false, false, false, false, false, false, false, false, false, false, false, false, false] rfl rfl (by kernel_rfl) (fun _ _ _ h => h) (Or.inl ⟨by rfl, ?_⟩) ?_ ?_
        rotate_left
        · intro w'
          go_simp
          with_reducible rfl
        rotate_left
        · simp only [Act.put, List.setIfInBounds_toArray, List.set_cons_zero, List.set_cons_succ, i64_w, i32_w]
          rfl
        refine pure_ (i := 16) (N := some 43) (v := ?_) (a' := ?_) #[true, true, true, true, true, true, true, true, true, true, true, true, true, true, true, true, true, false, false, false, false, false, false, false, false, false, false, false, false, false, false, false, false] rfl rfl (by kernel_rfl) (fun _ _ _ h => h) (Or.inl ⟨by rfl, ?_⟩) ?_ ?_
        rotate_left
        · intro w'
          go_simp
          with_reducible rfl
        rotate_left
        · simp only [Act.put, List.setIfInBounds_toArray, List.set_cons_zero, List.set_cons_succ, i64_w, i32_w]
          rfl
        refine pure_ (i := 17) (N := some 44) (v := undef) (a' := ?_) #[true, true, true, true, true, true, true, true, true, true, true, true, true, true, true, true, true, true, false, false, false, false, false, false, false, false, false, false, false, false, false, false, false] rfl rfl (by kernel_rfl) (fun _ _ _ h => h) (Or.inr ⟨by rfl, rfl⟩) ?_ ?_
        rotate_left
        · simp only [Act.put, List.setIfInBounds_toArray, List.set_cons_zero, List.set_cons_succ, i64_w, i32_w]
          rfl
        refine pure_ (i := 18) (N := some 45) (v := undef) (a' := ?_) #[true, true, true, true, true, true, true, true, true, true, true, true, true, true, true, true, true, true, true, false, false, false, false, false, false, false, false, false, false, false, false, false, false] rfl rfl (by kernel_rfl) (fun _ _ _ h => h) (Or.inr ⟨by rfl, rfl⟩) ?_ ?_
        rotate_left
        · simp only [Act.put, List.setIfInBounds_toArray, List.set_cons_zero, List.set_cons_succ, i64_w, i32_w]
          rfl
        refine pure_ (i := 19) (N := some 46) (v := undef) (a' := ?_) #[true, true, true, true, true, true, true, true, true, true, true, true, true, true, true, true, true, true, true, true, false, false, false, false, false, false, false, false, false, false, false, false, false] rfl rfl (by kernel_rfl) (fun _ _ _ h => h) (Or.inr ⟨by rfl, rfl⟩) ?_ ?_
        rotate_left
        · simp only [Act.put, List.setIfInBounds_toArray, List.set_cons_zero, List.set_cons_succ, i64_w, i32_w]
          rfl
        refine pure_ (i := 20) (N := some 47) (v := undef) (a' := ?_) #[true, true, true, true, true, true, true, true, true, true, true, true, true, true, true, true, true, true, true, true, true, false, false, false, false, false, false, false, false, false, false, false, false] rfl rfl (by kernel_rfl) (fun _ _ _ h => h) (Or.inr ⟨by rfl, rfl⟩) ?_ ?_
        rotate_left
        · simp only [Act.put, List.setIfInBounds_toArray, List.set_cons_zero, List.set_cons_succ, i64_w, i32_w]
          rfl
        refine pure_ (i := 21) (N := some 48) (v := undef) (a' := ?_) #[true, true, true, true, true, true, true, true, true, true, true, true, true, true, true, true, true, true, true, true, true, true, false, false, false, false, false, false, false, false, false, false, false] rfl rfl (by kernel_rfl) (fun _ _ _ h => h) (Or.inr ⟨by rfl, rfl⟩) ?_ ?_
        rotate_left
        · simp only [Act.put, List.setIfInBounds_toArray, List.set_cons_zero, List.set_cons_succ, i64_w, i32_w]
          rfl
        refine pure_ (i := 22) (N := some 49) (v := undef) (a' := ?_) #[true, true, true, true, true, true, true, true, true, true, true, true, true, true, true, true, true, true, true, true, true, true, true, false, false, false, false, false, false, false, false, false, false] rfl rfl (by kernel_rfl) (fun _ _ _ h => h) (Or.inr ⟨by rfl, rfl⟩) ?_ ?_
        rotate_left
        · simp only [Act.put, List.setIfInBounds_toArray, List.set_cons_zero, List.set_cons_succ, i64_w, i32_w]
          rfl
        refine pure_ (i := 23) (N := some 50) (v := undef) (a' := ?_) #[true, true, true, true, true, true, true, true, true, true, true, true, true, true, true, true, true, true, true, true, true, true, true, true, false, false, false, false, false, false, false, false, false] rfl rfl (by kernel_rfl) (fun _ _ _ h => h) (Or.inr ⟨by rfl, rfl⟩) ?_ ?_
        rotate_left
        · simp only [Act.put, List.setIfInBounds_toArray, List.set_cons_zero, List.set_cons_succ, i64_w, i32_w]
          rfl
        refine pure_ (i := 24) (N := some 51) (v := undef) (a' := ?_) #[true, true, true, true, true, true, true, true, true, true, true, true, true, true, true, true, true, true, true, true, true, true, true, true, true, false, false, false, false, false, false, false, false] rfl rfl (by kernel_rfl) (fun _ _ _ h => h) (Or.inr ⟨by rfl, rfl⟩) ?_ ?_
        rotate_left
        · simp only [Act.put, List.setIfInBounds_toArray, List.set_cons_zero, List.set_cons_succ, i64_w, i32_w]
          rfl
        refine pure_ (i := 25) (N := some 52) (v := undef) (a' := ?_) #[true, true, true, true, true, true, true, true, true, true, true, true, true, true, true, true, true, true, true, true, true, true, true, true, true, true, false, false, false, false, false, false, false] rfl rfl (by kernel_rfl) (fun _ _ _ h => h) (Or.inr ⟨by rfl, rfl⟩) ?_ ?_
        rotate_left
        · simp only [Act.put, List.setIfInBounds_toArray, List.set_cons_zero, List.set_cons_succ, i64_w, i32_w]
          rfl
        refine pure_ (i := 26) (N := some 53) (v := undef) (a' := ?_) #[true, true, true, true, true, true, true, true, true, true, true, true, true, true, true, true, true, true, true, true, true, true, true, true, true, true, true, false, false, false, false, false, false] rfl rfl (by kernel_rfl) (fun _ _ _ h => h) (Or.inr ⟨by rfl, rfl⟩) ?_ ?_
        rotate_left
        · simp only [Act.put, List.setIfInBounds_toArray, List.set_cons_zero, List.set_cons_succ, i64_w, i32_w]
          rfl
        refine pure_ (i := 27) (N := some 54) (v := undef) (a' := ?_) #[true, true, true, true, true, true, true, true, true, true, true, true, true, true, true, true, true, true, true, true, true, true, true, true, true, true, true, true, false, false, false, false, false] rfl rfl (by kernel_rfl) (fun _ _ _ h => h) (Or.inr ⟨by rfl, rfl⟩) ?_ ?_
        rotate_left
        · simp only [Act.put, List.setIfInBounds_toArray, List.set_cons_zero, List.set_cons_succ, i64_w, i32_w]
          rfl
        refine pure_ (i := 28) (N := some 55) (v := undef) (a' := ?_) #[true, true, true, true, true, true, true, true, true, true, true, true, true, true, true, true, true, true, true, true, true, true, true, true, true, true, true, true, true, false, false, false, false] rfl rfl (by kernel_rfl) (fun _ _ _ h => h) (Or.inr ⟨by rfl, rfl⟩) ?_ ?_
        rotate_left
        · simp only [Act.put, List.setIfInBounds_toArray, List.set_cons_zero, List.set_cons_succ, i64_w, i32_w]
          rfl
        refine pure_ (i := 29) (N := some 56) (v := undef) (a' := ?_) #[true, true, true, true, true, true, true, true, true, true, true, true, true, true, true, true, true, true, true, true, true, true, true, true, true, true, true, true, true, true, false, false, false] rfl rfl (by kernel_rfl) (fun _ _ _ h => h) (Or.inr ⟨by rfl, rfl⟩) ?_ ?_
        rotate_left
        · simp only [Act.put, List.setIfInBounds_toArray, List.set_cons_zero, List.set_cons_succ, i64_w, i32_w]
          rfl
        refine pure_ (i := 30) (N := some 57) (v := undef) (a' := ?_) #[true, true, true, true, true, true, true, true, true, true, true, true, true, true, true, true, true, true, true, true, true, true, true, true, true, true, true, true, true, true, true, false, false] rfl rfl (by kernel_rfl) (fun _ _ _ h => h) (Or.inr ⟨by rfl, rfl⟩) ?_ ?_
        rotate_left
        · simp only [Act.put, List.setIfInBounds_toArray, List.set_cons_zero, List.set_cons_succ, i64_w, i32_w]
          rfl
        refine pure_ (i := 31) (N := some 58) (v := undef) (a' := ?_) #[true, true, true, true, true, true, true, true, true, true, true, true, true, true, true, true, true, true, true, true, true, true, true, true, true, true, true, true, true, true, true, true, false] rfl rfl (by kernel_rfl) (fun _ _ _ h => h) (Or.inr ⟨by rfl, rfl⟩) ?_ ?_
        rotate_left
        · simp only [Act.put, List.setIfInBounds_toArray, List.set_cons_zero, List.set_cons_succ, i64_w, i32_w]
          rfl
        refine pure_ (i := 32) (N := some 59) (v := ?_) (a' := ?_) #[true, true, true, true, true, true, true, true, true, true, true, true, true, true, true, true, true, true, true, true, true, true, true, true, true, true, true, true, true, true, true, true, true] rfl rfl (by kernel_rfl) (fun _ _ _ h => h) (Or.inl ⟨by rfl, ?_⟩) ?_ ?_
        rotate_left
        · intro w'
          go_simp
          with_reducible rfl
        rotate_left
        · simp only [Act.put, List.setIfInBounds_toArray, List.set_cons_zero, List.set_cons_succ, i64_w, i32_w]
          rfl
        refine done_ (by kernel_rfl) ?_
        go_wp2
        go_ret3
        rw [HF.out]
        exact ⟨rfl, by first | exact pw_below_drewN (below_drew HB3.out) _ | exact pw_below_drewN HB3.out _⟩
      · have hk0 : (dec xs).2 ≠ 0 := fun e => hbr (.inl e)
        have hk1 : (dec xs).2 < xs.length := Nat.lt_of_not_le fun e => hbr (.inr e)
        clear hbr
        obtain ⟨t1, t2⟩ := two_ok xs hk0 hk1
        rw [H1.out] at t1
        simp only [Prod.mk.injEq] at t1
        obtain ⟨rfl, rfl, rfl⟩ := t1
        rw [H2.out] at t2
        simp only [Prod.mk.injEq] at t2
        obtain ⟨rfl, rfl, rfl⟩ := t2
        obtain ⟨⟨m, k⟩, hdec⟩ : ∃ q, dec xs = q := ⟨_, rfl⟩
        have hm64 := (dec_back xs HBy.out m k hdec (by rw [hdec] at hk0; exact hk0)).1
        rw [hdec] at hk0 hk1 HR3 HT HR2 ⊢
        simp only at hk0 hk1 HR3 HT HR2 ⊢
        have Hd := Lib.hid hdec
        obtain ⟨b, hbx⟩ : ∃ b, xs.getD k 0 = b := ⟨_, rfl⟩
        rw [hbx] at HT
        have Hbx := Lib.hid hbx
        have hb01 := HBy.out b (by rw [← hbx, List.getD_eq_getElem?_getD, List.getElem?_eq_getElem hk1]; exact List.getElem_mem hk1)
        clear hdec hbx H1 H2
        obtain ⟨A7, c7, rfl, hc7, hr7⟩ := OB.slice HT.out
        simp only [List.length_singleton] at hc7 hr7 HT ⊢
        have HT7 := Lib.hid hr7
        obtain ⟨ad7, rfl, hx7⟩ := hr7.2.2 (by omega)
        have hx7 := hx7 0 (by omega)
        simp only [List.getD_cons_zero] at hx7
        rw [show ad7.add 0 = ad7 from if_pos rfl] at hx7
        have hwm : IntKind.u64.wrap (wrap64 ((n : Int) - (acc.length : Int))) = (n : Int) - (acc.length : Int) := by
          rw [show wrap64 ((n : Int) - (acc.length : Int)) = ((n - acc.length : Nat) : Int) by unfold wrap64; omega, show (n : Int) - (acc.length : Int) = ((n - acc.length : Nat) : Int) by omega]; exact CF.wu64_id _ (by omega) (by omega)
        have hbad : ∀ (P : Prop), (m = 0 ∨ n - acc.length < m ∨ acc.getLast? = some b) → G = none := fun _ h => by
          rw [HGj.out]
          refine getG_bad _ _ _ _ hlt (decide_eq_true ?_)
          rw [Hd.out]
          simp only
          rw [Hbx.out]
          exact .inr (.inr h)
        have Hbad := Lib.hid hbad
        clear hr7 hbad
        by_cases hm0 : m = 0
        · have HF := Lib.hid (Hbad.out True (.inl hm0))
          subst hm0
          go_wp2_with fail
          refine start_ (n := 33) (S := fun w' => BQ.Rdr (fun k => w.heap.size ≤ k ∧ k < g) w' g (xs.drop (k + 1)) false) (ds := []) #[false, false, false, false, false, false, false, false, false, false, false, false, false, false, false, false, false, false, false, false, false, false, false, false, false, false, false, false, false, false, false, false, false] (by kernel_rfl) rfl rfl (HR3.out.drewN 1) (fun hHeld => ?_)
          refine pure_ (i := 0) (N := some 27) (v := ?_) (a' := ?_) #[true, false, false, false, false, false, false, false, false, false, false, false, false, false, false, false, false, false, false, false, false, false, false, false, false, false, false, false, false, false, false, false, false] rfl rfl (by kernel_rfl) (fun _ _ _ h => h) (Or.inl ⟨by rfl, ?_⟩) ?_ ?_
          rotate_left
          · intro w'
            go_simp
            with_reducible rfl
          rotate_left
          · simp only [Act.put, List.setIfInBounds_toArray, List.set_cons_zero, List.set_cons_succ, i64_w, i32_w]
            rfl
          refine one_ (i := 1) (N := some 28) #[true, true, false, false, false, false, false, false, false, false, false, false, false, false, false, false, false, false, false, false, false, false, false, false, false, false, false, false, false, false, false, false, false] rfl rfl (by kernel_rfl) (by decide) (fun K hK => ?_)
          refine goes_ Try.func17 (by kernel_rfl) rfl #[.pointer (some ⟨g, 0, none⟩)] (by rfl) rfl rfl (by simp only [List.map_toArray, List.map_cons, List.map_nil]; rfl) ?_
          with_reducible refine (BQ.err_calls g (xs.drop (k + 1)) false _ hHeld).mono ?_
          rintro e w4 ⟨rfl, ⟨n4, rfl⟩⟩
          refine ⟨_, rfl, ?_⟩
          refine hK.out _ _ (hHeld.drewN _) (fun hHeld => ?_)
          clear hK K
          refine norm_ (a' := ?_) ?_ ?_
          rotate_left
          · show Act.put _ (some 28) _ = _
            simp only [Act.put, List.setIfInBounds_toArray, List.set_cons_zero, List.set_cons_succ, i64_w, i32_w]
            rfl
          refine pure_ (i := 2) (N := some 29) (v := ?_) (a' := ?_) #[true, true, true, false, false, false, false, false, false, false, false, false, false, false, false, false, false, false, false, false, false, false, false, false, false, false, false, false, false, false, false, false, false] rfl rfl (by kernel_rfl) (fun _ _ _ h => h) (Or.inl ⟨by rfl, ?_⟩) ?_ ?_
          rotate_left
          · intro w'
            go_simp
            with_reducible rfl
          rotate_left
          · simp only [Act.put, List.setIfInBounds_toArray, List.set_cons_zero, List.set_cons_succ, i64_w, i32_w]
            rfl
          refine pure_ (i := 3) (N := some 30) (v := ?_) (a' := ?_) #[true, true, true, true, false, false, false, false, false, false, false, false, false, false, false, false, false, false, false, false, false, false, false, false, false, false, false, false, false, false, false, false, false] rfl rfl (by kernel_rfl) (fun _ _ _ h => h) (Or.inl ⟨by rfl, ?_⟩) ?_ ?_
          rotate_left
          · intro w'
            go_simp
            with_reducible rfl
          rotate_left
          · simp only [Act.put, List.setIfInBounds_toArray, List.set_cons_zero, List.set_cons_succ, i64_w, i32_w]
            rfl
          refine pure_ (i := 4) (N := some 31) (v := ?_) (a' := ?_) #[true, true, true, true, true, false, false, false, false, false, false, false, false, false, false, false, false, false, false, false, false, false, false, false, false, false, false, false, false, false, false, false, false] rfl rfl (by kernel_rfl) (fun _ _ _ h => h) (Or.inl ⟨by rfl, ?_⟩) ?_ ?_
          rotate_left
          · intro w'
            go_simp
            with_reducible rfl
          rotate_left
          · simp only [Act.put, List.setIfInBounds_toArray, List.set_cons_zero, List.set_cons_succ, i64_w, i32_w]
            rfl
          refine pure_ (i := 5) (N := some 32) (v := ?_) (a' := ?_) #[true, true, true, true, true, true, false, false, false, false, false, false, false, false, false, false, false, false, false, false, false, false, false, false, false, false, false, false, false, false, false, false, false] rfl rfl (by kernel_rfl) (fun _ _ _ h => h) (Or.inl ⟨by rfl, ?_⟩) ?_ ?_
          rotate_left
          · intro w'
            go_simp
            with_reducible rfl
          rotate_left
          · simp only [Act.put, List.setIfInBounds_toArray, List.set_cons_zero, List.set_cons_succ, i64_w, i32_w]
            rfl
          refine pure_ (i := 6) (N := some 33) (v := ?_) (a' := ?_) #[true, true, true, true, true, true, true, false, false, false, false, false, false, false, false, false, false, false, false, false, false, false, false, false, false, false, false, false, false, false, false, false, false] rfl rfl (by kernel_rfl) (fun _ _ _ h => h) (Or.inl ⟨by rfl, ?_⟩) ?_ ?_
          rotate_left
          · intro w'
            go_simp
            with_reducible rfl
          rotate_left
          · simp only [Act.put, List.setIfInBounds_toArray, List.set_cons_zero, List.set_cons_succ, i64_w, i32_w]
            rfl
          refine pure_ (i := 7) (N := some 34) (v := ?_) (a' := ?_) #[true, true, true, true, true, true, true, true, false, false, false, false, false, false, false, false, false, false, false, false, false, false, false, false, false, false, false, false, false, false, false, false, false] rfl rfl (by kernel_rfl) (fun _ _ _ h => h) (Or.inl ⟨by rfl, ?_⟩) ?_ ?_
          rotate_left
          · intro w'
            go_simp
            with_reducible rfl
          rotate_left
          · simp only [Act.put, List.setIfInBounds_toArray, List.set_cons_zero, List.set_cons_succ, i64_w, i32_w]
            rfl
          refine pure_ (i := 8) (N := some 35) (v := undef) (a' := ?_) #[true, true, true, true, true, true, true, true, true, false, false, false, false, false, false, false, false, false, false, false, false, false, false, false, false, false, false, false, false, false, false, false, false] rfl rfl (by kernel_rfl) (fun _ _ _ h => h) (Or.inr ⟨by rfl, rfl⟩) ?_ ?_
          rotate_left
          · simp only [Act.put, List.setIfInBounds_toArray, List.set_cons_zero, List.set_cons_succ, i64_w, i32_w]
            rfl
          refine pure_ (i := 9) (N := some 36) (v := undef) (a' := ?_) #[true, true, true, true, true, true, true, true, true, true, false, false, false, false, false, false, false, false, false, false, false, false, false, false, false, false, false, false, false, false, false, false, false] rfl rfl (by kernel_rfl) (fun _ _ _ h => h) (Or.inr ⟨by rfl, rfl⟩) ?_ ?_
          rotate_left
          · simp only [Act.put, List.setIfInBounds_toArray, List.set_cons_zero, List.set_cons_succ, i64_w, i32_w]
            rfl
          refine pure_ (i := 10) (N := some 37) (v := undef) (a' := ?_) #[true, true, true, true, true, true, true, true, true, true, true, false, false, false, false, false, false, false, false, false, false, false, false, false, false, false, false, false, false, false, false, false, false] rfl rfl (by kernel_rfl) (fun _ _ _ h => h) (Or.inr ⟨by rfl, rfl⟩) ?_ ?_
          rotate_left
          · simp only [Act.put, List.setIfInBounds_toArray, List.set_cons_zero, List.set_cons_succ, i64_w, i32_w]
            rfl
          refine pure_ (i := 11) (N := some 38) (v := undef) (a' := ?_) #[true, true, true, true, true, true, true, true, true, true, true, true, false, false, false, false, false, false, false, false, false, false, false, false, false, false, false, false, false, false, false, false, false] rfl rfl (by kernel_rfl) (fun _ _ _ h => h) (Or.inr ⟨by rfl, rfl⟩) ?_ ?_
          rotate_left
          · simp only [Act.put, List.setIfInBounds_toArray, List.set_cons_zero, List.set_cons_succ, i64_w, i32_w]
            rfl
          refine pure_ (i := 12) (N := some 39) (v := undef) (a' := ?_) #[true, true, true, true, true, true, true, true, true, true, true, true, true, false, false, false, false, false, false, false, false, false, false, false, false, false, false, false, false, false, false, false, false] rfl rfl (by kernel_rfl) (fun _ _ _ h => h) (Or.inr ⟨by rfl, rfl⟩) ?_ ?_
          rotate_left
          · simp only [Act.put, List.setIfInBounds_toArray, List.set_cons_zero, List.set_cons_succ, i64_w, i32_w]
            rfl
          refine pure_ (i := 13) (N := some 40) (v := undef) (a' := ?_) #[true, true, true, true, true, true, true, true, true, true, true, true, true, true, false, false, false, false, false, false, false, false, false, false, false, false, false, false, false, false, false, false, false] rfl rfl (by kernel_rfl) (fun _ _ _ h => h) (Or.inr ⟨by rfl, rfl⟩) ?_ ?_
          rotate_left
          · simp only [Act.put, List.setIfInBounds_toArray, List.set_cons_zero, List.set_cons_succ, i64_w, i32_w]
            rfl
          refine pure_ (i := 14) (N := some 41) (v := undef) (a' := ?_) #[true, true, true, true, true, true, true, true, true, true, true, true, true, true, true, false, false, false, false, false, false, false, false, false, false, false, false, false, false, false, false, false, false] rfl rfl (by kernel_rfl) (fun _ _ _ h => h) (Or.inr ⟨by rfl, rfl⟩) ?_ ?_
          rotate_left
          · simp only [Act.put, List.setIfInBounds_toArray, List.set_cons_zero, List.set_cons_succ, i64_w, i32_w]
            rfl
          refine pure_ (i := 15) (N := some 42) (v := ?_) (a' := ?_) #[true, true, true, true, true, true, true, true, true, true, true, true, true, true, true, true, false, false, false, false, false, false, false, false, false, false, false, false, false, false, false, false, false] rfl rfl (by kernel_rfl) (fun _ _ _ h => h) (Or.inl ⟨by rfl, ?_⟩) ?_ ?_
          rotate_left
          · intro w'
            go_simp
            with_reducible rfl
          rotate_left
          · simp only [Act.put, List.setIfInBounds_toArray, List.set_cons_zero, List.set_cons_succ, i64_w, i32_w]
            rfl
          refine pure_ (i := 16) (N := some 43) (v := ?_) (a' := ?_) #[true, true, true, true, true, true, true, true, true, true, true, true, true, true, true, true, true, false, false, false, false, false, false, false, false, false, false, false, false, false, false, false, false] rfl rfl (by kernel_rfl) (fun _ _ _ h => h) (Or.inl ⟨by rfl, ?_⟩) ?_ ?_
          rotate_left
          · intro w'
            go_simp
            with_reducible rfl
          rotate_left
          · simp only [Act.put, List.setIfInBounds_toArray, List.set_cons_zero, List.set_cons_succ, i64_w, i32_w]
            rfl
          refine pure_ (i := 17) (N := some 44) (v := undef) (a' := ?_) #[true, true, true, true, true, true, true, true, true, true, true, true, true, true, true, true, true, true, false, false, false, false, false, false, false, false, false, false, false, false, false, false, false] rfl rfl (by kernel_rfl) (fun _ _ _ h => h) (Or.inr ⟨by rfl, rfl⟩) ?_ ?_
          rotate_left
          · simp only [Act.put, List.setIfInBounds_toArray, List.set_cons_zero, List.set_cons_succ, i64_w, i32_w]
            rfl
          refine pure_ (i := 18) (N := some 45) (v := undef) (a' := ?_) #[true, true, true, true, true, true, true, true, true, true, true, true, true, true, true, true, true, true, true, false, false, false, false, false, false, false, false, false, false, false, false, false, false] rfl rfl (by kernel_rfl) (fun _ _ _ h => h) (Or.inr ⟨by rfl, rfl⟩) ?_ ?_
          rotate_left
          · simp only [Act.put, List.setIfInBounds_toArray, List.set_cons_zero, List.set_cons_succ, i64_w, i32_w]
            rfl
          refine pure_ (i := 19) (N := some 46) (v := undef) (a' := ?_) #[true, true, true, true, true, true, true, true, true, true, true, true, true, true, true, true, true, true, true, true, false, false, false, false, false, false, false, false, false, false, false, false, false] rfl rfl (by kernel_rfl) (fun _ _ _ h => h) (Or.inr ⟨by rfl, rfl⟩) ?_ ?_
          rotate_left
          · simp only [Act.put, List.setIfInBounds_toArray, List.set_cons_zero, List.set_cons_succ, i64_w, i32_w]
            rfl
          refine pure_ (i := 20) (N := some 47) (v := undef) (a' := ?_) #[true, true, true, true, true, true, true, true, true, true, true, true, true, true, true, true, true, true, true, true, true, false, false, false, false, false, false, false, false, false, false, false, false] rfl rfl (by kernel_rfl) (fun _ _ _ h => h) (Or.inr ⟨by rfl, rfl⟩) ?_ ?_
          rotate_left
          · simp only [Act.put, List.setIfInBounds_toArray, List.set_cons_zero, List.set_cons_succ, i64_w, i32_w]
            rfl
          refine pure_ (i := 21) (N := some 48) (v := undef) (a' := ?_) #[true, true, true, true, true, true, true, true, true, true, true, true, true, true, true, true, true, true, true, true, true, true, false, false, false, false, false, false, false, false, false, false, false] rfl rfl (by kernel_rfl) (fun _ _ _ h => h) (Or.inr ⟨by rfl, rfl⟩) ?_ ?_
          rotate_left
          · simp only [Act.put, List.setIfInBounds_toArray, List.set_cons_zero, List.set_cons_succ, i64_w, i32_w]
            rfl
          refine pure_ (i := 22) (N := some 49) (v := undef) (a' := ?_) #[true, true, true, true, true, true, true, true, true, true, true, true, true, true, true, true, true, true, true, true, true, true, true, false, false, false, false, false, false, false, false, false, false] rfl rfl (by kernel_rfl) (fun _ _ _ h => h) (Or.inr ⟨by rfl, rfl⟩) ?_ ?_
          rotate_left
          · simp only [Act.put, List.setIfInBounds_toArray, List.set_cons_zero, List.set_cons_succ, i64_w, i32_w]
            rfl
          refine pure_ (i := 23) (N := some 50) (v := undef) (a' := ?_) #[true, true, true, true, true, true, true, true, true, true, true, true, true, true, true, true, true, true, true, true, true, true, true, true, false, false, false, false, false, false, false, false, false] rfl rfl (by kernel_rfl) (fun _ _ _ h => h) (Or.inr ⟨by rfl, rfl⟩) ?_ ?_
          rotate_left
          · simp only [Act.put, List.setIfInBounds_toArray, List.set_cons_zero, List.set_cons_succ, i64_w, i32_w]
            rfl
          refine pure_ (i := 24) (N := some 51) (v := undef) (a' := ?_) #[true, true, true, true, true, true, true, true, true, true, true, true, true, true, true, true, true, true, true, true, true, true, true, true, true, false, false, false, false, false, false, false, false] rfl rfl (by kernel_rfl) (fun _ _ _ h => h) (Or.inr ⟨by rfl, rfl⟩) ?_ ?_
          rotate_left
          · simp only [Act.put, List.setIfInBounds_toArray, List.set_cons_zero, List.set_cons_succ, i64_w, i32_w]
            rfl
          refine pure_ (i := 25) (N := some 52) (v := undef) (a' := ?_) #[true, true, true, true, true, true, true, true, true, true, true, true, true, true, true, true, true, true, true, true, true, true, true, true, true, true, false, false, false, false, false, false, false] rfl rfl (by kernel_rfl) (fun _ _ _ h => h) (Or.inr ⟨by rfl, rfl⟩) ?_ ?_
          rotate_left
          · simp only [Act.put, List.setIfInBounds_toArray, List.set_cons_zero, List.set_cons_succ, i64_w, i32_w]
            rfl
          refine pure_ (i := 26) (N := some 53) (v := undef) (a' := ?_) #[true, true, true, true, true, true, true, true, true, true, true, true, true, true, true, true, true, true, true, true, true, true, true, true, true, true, true, false, false, false, false, false, false] rfl rfl (by kernel_rfl) (fun _ _ _ h => h) (Or.inr ⟨by rfl, rfl⟩) ?_ ?_
          rotate_left
          · simp only [Act.put, List.setIfInBounds_toArray, List.set_cons_zero, List.set_cons_succ, i64_w, i32_w]
            rfl
          refine pure_ (i := 27) (N := some 54) (v := undef) (a' := ?_) #[true, true, true, true, true, true, true, true, true, true, true, true, true, true, true, true, true, true, true, true, true, true, true, true, true, true, true, true, false, false, false, false, false] rfl rfl (by kernel_rfl) (fun _ _ _ h => h) (Or.inr ⟨by rfl, rfl⟩) ?_ ?_
          rotate_left
          · simp only [Act.put, List.setIfInBounds_toArray, List.set_cons_zero, List.set_cons_succ, i64_w, i32_w]
            rfl
          refine pure_ (i := 28) (N := some 55) (v := undef) (a' := ?_) #[true, true, true, true, true, true, true, true, true, true, true, true, true, true, true, true, true, true, true, true, true, true, true, true, true, true, true, true, true, false, false, false, false] rfl rfl (by kernel_rfl) (fun _ _ _ h => h) (Or.inr ⟨by rfl, rfl⟩) ?_ ?_
          rotate_left
          · simp only [Act.put, List.setIfInBounds_toArray, List.set_cons_zero, List.set_cons_succ, i64_w, i32_w]
            rfl
          refine pure_ (i := 29) (N := some 56) (v := undef) (a' := ?_) #[true, true, true, true, true, true, true, true, true, true, true, true, true, true, true, true, true, true, true, true, true, true, true, true, true, true, true, true, true, true, false, false, false] rfl rfl (by kernel_rfl) (fun _ _ _ h => h) (Or.inr ⟨by rfl, rfl⟩) ?_ ?_
          rotate_left
          · simp only [Act.put, List.setIfInBounds_toArray, List.set_cons_zero, List.set_cons_succ, i64_w, i32_w]
            rfl
          refine pure_ (i := 30) (N := some 57) (v := undef) (a' := ?_) #[true, true, true, true, true, true, true, true, true, true, true, true, true, true, true, true, true, true, true, true, true, true, true, true, true, true, true, true, true, true, true, false, false] rfl rfl (by kernel_rfl) (fun _ _ _ h => h) (Or.inr ⟨by rfl, rfl⟩) ?_ ?_
          rotate_left
          · simp only [Act.put, List.setIfInBounds_toArray, List.set_cons_zero, List.set_cons_succ, i64_w, i32_w]
            rfl
          refine pure_ (i := 31) (N := some 58) (v := undef) (a' := ?_) #[true, true, true, true, true, true, true, true, true, true, true, true, true, true, true, true, true, true, true, true, true, true, true, true, true, true, true, true, true, true, true, true, false] rfl rfl (by kernel_rfl) (fun _ _ _ h => h) (Or.inr ⟨by rfl, rfl⟩) ?_ ?_
          rotate_left
          · simp only [Act.put, List.setIfInBounds_toArray, List.set_cons_zero, List.set_cons_succ, i64_w, i32_w]
            rfl
          refine pure_ (i := 32) (N := some 59) (v := ?_) (a' := ?_) #[true, true, true, true, true, true, true, true, true, true, true, true, true, true, true, true, true, true, true, true, true, true, true, true, true, true, true, true, true, true, true, true, true] rfl rfl (by kernel_rfl) (fun _ _ _ h => h) (Or.inl ⟨by rfl, ?_⟩) ?_ ?_
          rotate_left
          · intro w'
            go_simp
            with_reducible rfl
          rotate_left
          · simp only [Act.put, List.setIfInBounds_toArray, List.set_cons_zero, List.set_cons_succ, i64_w, i32_w]
            rfl
          refine done_ (by kernel_rfl) ?_
          go_wp2
          go_ret3
          rw [HF.out]
          exact ⟨rfl, by first | exact pw_below_drewN (below_drew HB3.out) _ | exact pw_below_drewN HB3.out _⟩
        · have hm1 : ((m : Int) == 0) = false := beq_eq_false_iff_ne.mpr (by omega)
          by_cases hmn : n - acc.length < m
          · have HF := Lib.hid (Hbad.out True (.inr (.inl hmn)))
            have hmn1 := decide_eq_true (show IntKind.u64.wrap (wrap64 ((n : Int) - (acc.length : Int))) < (m : Int) by rw [hwm]; omega)
            have hmn2 := decide_eq_true (show (n : Int) - (acc.length : Int) < (m : Int) by omega)
            go_wp2_with fail
            refine start_ (n := 33) (S := fun w' => BQ.Rdr (fun k => w.heap.size ≤ k ∧ k < g) w' g (xs.drop (k + 1)) false) (ds := []) #[false, false, false, false, false, false, false, false, false, false, false, false, false, false, false, false, false, false, false, false, false, false, false, false, false, false, false, false, false, false, false, false, false] (by kernel_rfl) rfl rfl (HR3.out.drewN 1) (fun hHeld => ?_)
            refine pure_ (i := 0) (N := some 27) (v := ?_) (a' := ?_) #[true, false, false, false, false, false, false, false, false, false, false, false, false, false, false, false, false, false, false, false, false, false, false, false, false, false, false, false, false, false, false, false, false] rfl rfl (by kernel_rfl) (fun _ _ _ h => h) (Or.inl ⟨by rfl, ?_⟩) ?_ ?_
            rotate_left
            · intro w'
              go_simp
              with_reducible rfl
            rotate_left
            · simp only [Act.put, List.setIfInBounds_toArray, List.set_cons_zero, List.set_cons_succ, i64_w, i32_w]
              rfl
            refine one_ (i := 1) (N := some 28) #[true, true, false, false, false, false, false, false, false, false, false, false, false, false, false, false, false, false, false, false, false, false, false, false, false, false, false, false, false, false, false, false, false] rfl rfl (by kernel_rfl) (by decide) (fun K hK => ?_)
            refine goes_ Try.func17 (by kernel_rfl) rfl #[.pointer (some ⟨g, 0, none⟩)] (by rfl) rfl rfl (by simp only [List.map_toArray, List.map_cons, List.map_nil]; rfl) ?_
            with_reducible refine (BQ.err_calls g (xs.drop (k + 1)) false _ hHeld).mono ?_
            rintro e w4 ⟨rfl, ⟨n4, rfl⟩⟩
            refine ⟨_, rfl, ?_⟩
            refine hK.out _ _ (hHeld.drewN _) (fun hHeld => ?_)
            clear hK K
            refine norm_ (a' := ?_) ?_ ?_
            rotate_left
            · show Act.put _ (some 28) _ = _
              simp only [Act.put, List.setIfInBounds_toArray, List.set_cons_zero, List.set_cons_succ, i64_w, i32_w]
              rfl
            refine pure_ (i := 2) (N := some 29) (v := ?_) (a' := ?_) #[true, true, true, false, false, false, false, false, false, false, false, false, false, false, false, false, false, false, false, false, false, false, false, false, false, false, false, false, false, false, false, false, false] rfl rfl (by kernel_rfl) (fun _ _ _ h => h) (Or.inl ⟨by rfl, ?_⟩) ?_ ?_
            rotate_left
            · intro w'
              go_simp
              with_reducible rfl
            rotate_left
            · simp only [Act.put, List.setIfInBounds_toArray, List.set_cons_zero, List.set_cons_succ, i64_w, i32_w]
              rfl
            refine pure_ (i := 3) (N := some 30) (v := ?_) (a' := ?_) #[true, true, true, true, false, false, false, false, false, false, false, false, false, false, false, false, false, false, false, false, false, false, false, false, false, false, false, false, false, false, false, false, false] rfl rfl (by kernel_rfl) (fun _ _ _ h => h) (Or.inl ⟨by rfl, ?_⟩) ?_ ?_
            rotate_left
            · intro w'
              go_simp
              with_reducible rfl
            rotate_left
            · simp only [Act.put, List.setIfInBounds_toArray, List.set_cons_zero, List.set_cons_succ, i64_w, i32_w]
              rfl
            refine pure_ (i := 4) (N := some 31) (v := ?_) (a' := ?_) #[true, true, true, true, true, false, false, false, false, false, false, false, false, false, false, false, false, false, false, false, false, false, false, false, false, false, false, false, false, false, false, false, false] rfl rfl (by kernel_rfl) (fun _ _ _ h => h) (Or.inl ⟨by rfl, ?_⟩) ?_ ?_
            rotate_left
            · intro w'
              go_simp
              with_reducible rfl
            rotate_left
            · simp only [Act.put, List.setIfInBounds_toArray, List.set_cons_zero, List.set_cons_succ, i64_w, i32_w]
              rfl
            refine pure_ (i := 5) (N := some 32) (v := ?_) (a' := ?_) #[true, true, true, true, true, true, false, false, false, false, false, false, false, false, false, false, false, false, false, false, false, false, false, false, false, false, false, false, false, false, false, false, false] rfl rfl (by kernel_rfl) (fun _ _ _ h => h) (Or.inl ⟨by rfl, ?_⟩) ?_ ?_
            rotate_left
            · intro w'
              go_simp
              with_reducible rfl
            rotate_left
            · simp only [Act.put, List.setIfInBounds_toArray, List.set_cons_zero, List.set_cons_succ, i64_w, i32_w]
              rfl
            refine pure_ (i := 6) (N := some 33) (v := ?_) (a' := ?_) #[true, true, true, true, true, true, true, false, false, false, false, false, false, false, false, false, false, false, false, false, false, false, false, false, false, false, false, false, false, false, false, false, false] rfl rfl (by kernel_rfl) (fun _ _ _ h => h) (Or.inl ⟨by rfl, ?_⟩) ?_ ?_
            rotate_left
            · intro w'
              go_simp
              with_reducible rfl
            rotate_left
            · simp only [Act.put, List.setIfInBounds_toArray, List.set_cons_zero, List.set_cons_succ, i64_w, i32_w]
              rfl
            refine pure_ (i := 7) (N := some 34) (v := ?_) (a' := ?_) #[true, true, true, true, true, true, true, true, false, false, false, false, false, false, false, false, false, false, false, false, false, false, false, false, false, false, false, false, false, false, false, false, false] rfl rfl (by kernel_rfl) (fun _ _ _ h => h) (Or.inl ⟨by rfl, ?_⟩) ?_ ?_
            rotate_left
            · intro w'
              go_simp
              with_reducible rfl
            rotate_left
            · simp only [Act.put, List.setIfInBounds_toArray, List.set_cons_zero, List.set_cons_succ, i64_w, i32_w]
              rfl
            refine pure_ (i := 8) (N := some 35) (v := ?_) (a' := ?_) #[true, true, true, true, true, true, true, true, true, false, false, false, false, false, false, false, false, false, false, false, false, false, false, false, false, false, false, false, false, false, false, false, false] rfl rfl (by kernel_rfl) (fun _ _ _ h => h) (Or.inl ⟨by rfl, ?_⟩) ?_ ?_
            rotate_left
            · intro w'
              go_simp
              with_reducible rfl
            rotate_left
            · simp only [Act.put, List.setIfInBounds_toArray, List.set_cons_zero, List.set_cons_succ, i64_w, i32_w]
              rfl
            refine pure_ (i := 9) (N := some 36) (v := ?_) (a' := ?_) #[true, true, true, true, true, true, true, true, true, true, false, false, false, false, false, false, false, false, false, false, false, false, false, false, false, false, false, false, false, false, false, false, false] rfl rfl (by kernel_rfl) (fun _ _ _ h => h) (Or.inl ⟨by rfl, ?_⟩) ?_ ?_
            rotate_left
            · intro w'
              go_simp
              with_reducible rfl
            rotate_left
            · simp only [Act.put, List.setIfInBounds_toArray, List.set_cons_zero, List.set_cons_succ, i64_w, i32_w]
              rfl
            refine pure_ (i := 10) (N := some 37) (v := ?_) (a' := ?_) #[true, true, true, true, true, true, true, true, true, true, true, false, false, false, false, false, false, false, false, false, false, false, false, false, false, false, false, false, false, false, false, false, false] rfl rfl (by kernel_rfl) (fun _ _ _ h => h) (Or.inl ⟨by rfl, ?_⟩) ?_ ?_
            rotate_left
            · intro w'
              go_simp
              with_reducible rfl
            rotate_left
            · simp only [Act.put, List.setIfInBounds_toArray, List.set_cons_zero, List.set_cons_succ, i64_w, i32_w]
              rfl
            refine pure_ (i := 11) (N := some 38) (v := ?_) (a' := ?_) #[true, true, true, true, true, true, true, true, true, true, true, true, false, false, false, false, false, false, false, false, false, false, false, false, false, false, false, false, false, false, false, false, false] rfl rfl (by kernel_rfl) (fun _ _ _ h => h) (Or.inl ⟨by rfl, ?_⟩) ?_ ?_
            rotate_left
            · intro w'
              go_simp
              with_reducible rfl
            rotate_left
            · simp only [Act.put, List.setIfInBounds_toArray, List.set_cons_zero, List.set_cons_succ, i64_w, i32_w]
              rfl
            refine pure_ (i := 12) (N := some 39) (v := ?_) (a' := ?_) #[true, true, true, true, true, true, true, true, true, true, true, true, true, false, false, false, false, false, false, false, false, false, false, false, false, false, false, false, false, false, false, false, false] rfl rfl (by kernel_rfl) (fun _ _ _ h => h) (Or.inl ⟨by rfl, ?_⟩) ?_ ?_
            rotate_left
            · intro w'
              go_simp
              with_reducible rfl
            rotate_left
            · simp only [Act.put, List.setIfInBounds_toArray, List.set_cons_zero, List.set_cons_succ, i64_w, i32_w]
              rfl
            refine take_ (i := 13) (N := some 40) (v := ?_) (a' := ?_) #[true, true, true, true, true, true, true, true, true, true, true, true, true, true, false, false, false, false, false, false, false, false, false, false, false, false, false, false, false, false, false, false, false] rfl rfl (by kernel_rfl) (fun _ _ _ h => h) (Or.inl ⟨by rfl, ?_⟩) hHeld ?_ ?_
            rotate_left
            · intro w' s0
              go_simp
              with_reducible rfl
            rotate_left
            · simp only [Act.put, List.setIfInBounds_toArray, List.set_cons_zero, List.set_cons_succ, i64_w, i32_w]
              rfl
            refine pure_ (i := 14) (N := some 41) (v := ?_) (a' := ?_) #[true, true, true, true, true, true, true, true, true, true, true, true, true, true, true, false, false, false, false, false, false, false, false, false, false, false, false, false, false, false, false, false, false] rfl rfl (by kernel_rfl) (fun _ _ _ h => h) (Or.inl ⟨by rfl, ?_⟩) ?_ ?_
            rotate_left
            · intro w'
              go_simp
              with_reducible rfl
            rotate_left
            · simp only [Act.put, List.setIfInBounds_toArray, List.set_cons_zero, List.set_cons_succ, i64_w, i32_w]
              rfl
            refine pure_ (i := 15) (N := some 42) (v := ?_) (a' := ?_) #[true, true, true, true, true, true, true, true, true, true, true, true, true, true, true, true, false, false, false, false, false, false, false, false, false, false, false, false, false, false, false, false, false] rfl rfl (by kernel_rfl) (fun _ _ _ h => h) (Or.inl ⟨by rfl, ?_⟩) ?_ ?_
            rotate_left
            · intro w'
              go_simp
              with_reducible rfl
            rotate_left
            · simp only [Act.put, List.setIfInBounds_toArray, List.set_cons_zero, List.set_cons_succ, i64_w, i32_w]
              rfl
            refine pure_ (i := 16) (N := some 43) (v := ?_) (a' := ?_) #[true, true, true, true, true, true, true, true, true, true, true, true, true, true, true, true, true, false, false, false, false, false, false, false, false, false, false, false, false, false, false, false, false] rfl rfl (by kernel_rfl) (fun _ _ _ h => h) (Or.inl ⟨by rfl, ?_⟩) ?_ ?_
            rotate_left
            · intro w'
              go_simp
              with_reducible rfl
            rotate_left
            · simp only [Act.put, List.setIfInBounds_toArray, List.set_cons_zero, List.set_cons_succ, i64_w, i32_w]
              rfl
            refine pure_ (i := 17) (N := some 44) (v := undef) (a' := ?_) #[true, true, true, true, true, true, true, true, true, true, true, true, true, true, true, true, true, true, false, false, false, false, false, false, false, false, false, false, false, false, false, false, false] rfl rfl (by kernel_rfl) (fun _ _ _ h => h) (Or.inr ⟨by rfl, rfl⟩) ?_ ?_
            rotate_left
            · simp only [Act.put, List.setIfInBounds_toArray, List.set_cons_zero, List.set_cons_succ, i64_w, i32_w]
              rfl
            refine pure_ (i := 18) (N := some 45) (v := undef) (a' := ?_) #[true, true, true, true, true, true, true, true, true, true, true, true, true, true, true, true, true, true, true, false, false, false, false, false, false, false, false, false, false, false, false, false, false] rfl rfl (by kernel_rfl) (fun _ _ _ h => h) (Or.inr ⟨by rfl, rfl⟩) ?_ ?_
            rotate_left
            · simp only [Act.put, List.setIfInBounds_toArray, List.set_cons_zero, List.set_cons_succ, i64_w, i32_w]
              rfl
            refine pure_ (i := 19) (N := some 46) (v := undef) (a' := ?_) #[true, true, true, true, true, true, true, true, true, true, true, true, true, true, true, true, true, true, true, true, false, false, false, false, false, false, false, false, false, false, false, false, false] rfl rfl (by kernel_rfl) (fun _ _ _ h => h) (Or.inr ⟨by rfl, rfl⟩) ?_ ?_
            rotate_left
            · simp only [Act.put, List.setIfInBounds_toArray, List.set_cons_zero, List.set_cons_succ, i64_w, i32_w]
              rfl
            refine pure_ (i := 20) (N := some 47) (v := undef) (a' := ?_) #[true, true, true, true, true, true, true, true, true, true, true, true, true, true, true, true, true, true, true, true, true, false, false, false, false, false, false, false, false, false, false, false, false] rfl rfl (by kernel_rfl) (fun _ _ _ h => h) (Or.inr ⟨by rfl, rfl⟩) ?_ ?_
            rotate_left
            · simp only [Act.put, List.setIfInBounds_toArray, List.set_cons_zero, List.set_cons_succ, i64_w, i32_w]
              rfl
            refine pure_ (i := 21) (N := some 48) (v := undef) (a' := ?_) #[true, true, true, true, true, true, true, true, true, true, true, true, true, true, true, true, true, true, true, true, true, true, false, false, false, false, false, false, false, false, false, false, false] rfl rfl (by kernel_rfl) (fun _ _ _ h => h) (Or.inr ⟨by rfl, rfl⟩) ?_ ?_
            rotate_left
            · simp only [Act.put, List.setIfInBounds_toArray, List.set_cons_zero, List.set_cons_succ, i64_w, i32_w]
              rfl
            refine pure_ (i := 22) (N := some 49) (v := undef) (a' := ?_) #[true, true, true, true, true, true, true, true, true, true, true, true, true, true, true, true, true, true, true, true, true, true, true, false, false, false, false, false, false, false, false, false, false] rfl rfl (by kernel_rfl) (fun _ _ _ h => h) (Or.inr ⟨by rfl, rfl⟩) ?_ ?_
            rotate_left
            · simp only [Act.put, List.setIfInBounds_toArray, List.set_cons_zero, List.set_cons_succ, i64_w, i32_w]
              rfl
            refine pure_ (i := 23) (N := some 50) (v := undef) (a' := ?_) #[true, true, true, true, true, true, true, true, true, true, true, true, true, true, true, true, true, true, true, true, true, true, true, true, false, false, false, false, false, false, false, false, false] rfl rfl (by kernel_rfl) (fun _ _ _ h => h) (Or.inr ⟨by rfl, rfl⟩) ?_ ?_
            rotate_left
            · simp only [Act.put, List.setIfInBounds_toArray, List.set_cons_zero, List.set_cons_succ, i64_w, i32_w]
              rfl
            refine pure_ (i := 24) (N := some 51) (v := undef) (a' := ?_) #[true, true, true, true, true, true, true, true, true, true, true, true, true, true, true, true, true, true, true, true, true, true, true, true, true, false, false, false, false, false, false, false, false] rfl rfl (by kernel_rfl) (fun _ _ _ h => h) (Or.inr ⟨by rfl, rfl⟩) ?_ ?_
            rotate_left
            · simp only [Act.put, List.setIfInBounds_toArray, List.set_cons_zero, List.set_cons_succ, i64_w, i32_w]
              rfl
            refine pure_ (i := 25) (N := some 52) (v := undef) (a' := ?_) #[true, true, true, true, true, true, true, true, true, true, true, true, true, true, true, true, true, true, true, true, true, true, true, true, true, true, false, false, false, false, false, false, false] rfl rfl (by kernel_rfl) (fun _ _ _ h => h) (Or.inr ⟨by rfl, rfl⟩) ?_ ?_
            rotate_left
            · simp only [Act.put, List.setIfInBounds_toArray, List.set_cons_zero, List.set_cons_succ, i64_w, i32_w]
              rfl
            refine pure_ (i := 26) (N := some 53) (v := undef) (a' := ?_) #[true, true, true, true, true, true, true, true, true, true, true, true, true, true, true, true, true, true, true, true, true, true, true, true, true, true, true, false, false, false, false, false, false] rfl rfl (by kernel_rfl) (fun _ _ _ h => h) (Or.inr ⟨by rfl, rfl⟩) ?_ ?_
            rotate_left
            · simp only [Act.put, List.setIfInBounds_toArray, List.set_cons_zero, List.set_cons_succ, i64_w, i32_w]
              rfl
            refine pure_ (i := 27) (N := some 54) (v := undef) (a' := ?_) #[true, true, true, true, true, true, true, true, true, true, true, true, true, true, true, true, true, true, true, true, true, true, true, true, true, true, true, true, false, false, false, false, false] rfl rfl (by kernel_rfl) (fun _ _ _ h => h) (Or.inr ⟨by rfl, rfl⟩) ?_ ?_
            rotate_left
            · simp only [Act.put, List.setIfInBounds_toArray, List.set_cons_zero, List.set_cons_succ, i64_w, i32_w]
              rfl
            refine pure_ (i := 28) (N := some 55) (v := undef) (a' := ?_) #[true, true, true, true, true, true, true, true, true, true, true, true, true, true, true, true, true, true, true, true, true, true, true, true, true, true, true, true, true, false, false, false, false] rfl rfl (by kernel_rfl) (fun _ _ _ h => h) (Or.inr ⟨by rfl, rfl⟩) ?_ ?_
            rotate_left
            · simp only [Act.put, List.setIfInBounds_toArray, List.set_cons_zero, List.set_cons_succ, i64_w, i32_w]
              rfl
            refine pure_ (i := 29) (N := some 56) (v := undef) (a' := ?_) #[true, true, true, true, true, true, true, true, true, true, true, true, true, true, true, true, true, true, true, true, true, true, true, true, true, true, true, true, true, true, false, false, false] rfl rfl (by kernel_rfl) (fun _ _ _ h => h) (Or.inr ⟨by rfl, rfl⟩) ?_ ?_
            rotate_left
            · simp only [Act.put, List.setIfInBounds_toArray, List.set_cons_zero, List.set_cons_succ, i64_w, i32_w]
              rfl
            refine pure_ (i := 30) (N := some 57) (v := undef) (a' := ?_) #[true, true, true, true, true, true, true, true, true, true, true, true, true, true, true, true, true, true, true, true, true, true, true, true, true, true, true, true, true, true, true, false, false] rfl rfl (by kernel_rfl) (fun _ _ _ h => h) (Or.inr ⟨by rfl, rfl⟩) ?_ ?_
            rotate_left
            · simp only [Act.put, List.setIfInBounds_toArray, List.set_cons_zero, List.set_cons_succ, i64_w, i32_w]
              rfl
            refine pure_ (i := 31) (N := some 58) (v := undef) (a' := ?_) #[true, true, true, true, true, true, true, true, true, true, true, true, true, true, true, true, true, true, true, true, true, true, true, true, true, true, true, true, true, true, true, true, false] rfl rfl (by kernel_rfl) (fun _ _ _ h => h) (Or.inr ⟨by rfl, rfl⟩) ?_ ?_
            rotate_left
            · simp only [Act.put, List.setIfInBounds_toArray, List.set_cons_zero, List.set_cons_succ, i64_w, i32_w]
              rfl
            refine pure_ (i := 32) (N := some 59) (v := ?_) (a' := ?_) #[true, true, true, true, true, true, true, true, true, true, true, true, true, true, true, true, true, true, true, true, true, true, true, true, true, true, true, true, true, true, true, true, true] rfl rfl (by kernel_rfl) (fun _ _ _ h => h) (Or.inl ⟨by rfl, ?_⟩) ?_ ?_
            rotate_left
            · intro w'
              go_simp
              with_reducible rfl
            rotate_left
            · simp only [Act.put, List.setIfInBounds_toArray, List.set_cons_zero, List.set_cons_succ, i64_w, i32_w]
              rfl
            refine done_ (by kernel_rfl) ?_
            go_wp2
            go_ret3
            rw [HF.out]
            exact ⟨rfl, by first | exact pw_below_drewN (below_drew HB3.out) _ | exact pw_below_drewN HB3.out _⟩
          · have hmn1 := decide_eq_false (show ¬ IntKind.u64.wrap (wrap64 ((n : Int) - (acc.length : Int))) < (m : Int) by rw [hwm]; omega)
            have hmn2 := decide_eq_false (show ¬ (n : Int) - (acc.length : Int) < (m : Int) by omega)
            by_cases ha0 : 0 < acc.length
            · have ha1 := decide_eq_true (show (0 : Int) < (acc.length : Int) by omega)
              obtain ⟨ad6, eA, hx6⟩ := (OB.reads HO3.out).at_ ((acc.length : Int) - 1) (by omega) (by omega)
              cases eA
              rw [show ((acc.length : Int) - 1).toNat = acc.length - 1 by omega] at hx6
              have p3 : (1 ≤ (acc.length : Int)) = True := eq_true (by omega)
              have hwi : wrap64 ((acc.length : Int) - 1) = (acc.length : Int) - 1 := by unfold wrap64; omega
              have p1 : (0 ≤ (acc.length : Int) - 1) = True := eq_true (by omega)
              have p2 : ((acc.length : Int) - 1 < (acc.length : Int)) = True := eq_true (by omega)
              by_cases hx : rd acc ((acc.length : Int) - 1) = b
              · have HF := Lib.hid (Hbad.out True (.inr (.inr (by rw [last_rd acc ha0, hx]))))
                have hq := beq_iff_eq.mpr hx
                clear hx
                go_wp2_with fail
                refine start_ (n := 33) (S := fun w' => BQ.Rdr (fun k => w.heap.size ≤ k ∧ k < g) w' g (xs.drop (k + 1)) false ∧ w'.cell? (ad6.add (acc.length - 1)) = some (.int .u8 (rd acc ((acc.length : Int) - 1))) ∧ w'.cell? ad7 = some (.int .u8 b)) (ds := []) #[false, false, false, false, false, false, false, false, false, false, false, false, false, false, false, false, false, false, false, false, false, false, false, false, false, false, false, false, false, false, false, false, false] (by kernel_rfl) rfl rfl ⟨HR3.out.drewN 1, hx6, hx7⟩ (fun hHeld => ?_)
                refine pure_ (i := 0) (N := some 27) (v := ?_) (a' := ?_) #[true, false, false, false, false, false, false, false, false, false, false, false, false, false, false, false, false, false, false, false, false, false, false, false, false, false, false, false, false, false, false, false, false] rfl rfl (by kernel_rfl) (fun _ _ _ h => h) (Or.inl ⟨by rfl, ?_⟩) ?_ ?_
                rotate_left
                · intro w'
                  go_simp
                  with_reducible rfl
                rotate_left
                · simp only [Act.put, List.setIfInBounds_toArray, List.set_cons_zero, List.set_cons_succ, i64_w, i32_w]
                  rfl
                refine one_ (i := 1) (N := some 28) #[true, true, false, false, false, false, false, false, false, false, false, false, false, false, false, false, false, false, false, false, false, false, false, false, false, false, false, false, false, false, false, false, false] rfl rfl (by kernel_rfl) (by decide) (fun K hK => ?_)
                refine goes_ Try.func17 (by kernel_rfl) rfl #[.pointer (some ⟨g, 0, none⟩)] (by rfl) rfl rfl (by simp only [List.map_toArray, List.map_cons, List.map_nil]; rfl) ?_
                with_reducible refine (BQ.err_calls g (xs.drop (k + 1)) false _ hHeld.1).mono ?_
                rintro e w4 ⟨rfl, ⟨n4, rfl⟩⟩
                refine ⟨_, rfl, ?_⟩
                refine hK.out _ _ ⟨hHeld.1.drewN _, hHeld.2.1, hHeld.2.2⟩ (fun hHeld => ?_)
                clear hK K
                refine norm_ (a' := ?_) ?_ ?_
                rotate_left
                · show Act.put _ (some 28) _ = _
                  simp only [Act.put, List.setIfInBounds_toArray, List.set_cons_zero, List.set_cons_succ, i64_w, i32_w]
                  rfl
                refine pure_ (i := 2) (N := some 29) (v := ?_) (a' := ?_) #[true, true, true, false, false, false, false, false, false, false, false, false, false, false, false, false, false, false, false, false, false, false, false, false, false, false, false, false, false, false, false, false, false] rfl rfl (by kernel_rfl) (fun _ _ _ h => h) (Or.inl ⟨by rfl, ?_⟩) ?_ ?_
                rotate_left
                · intro w'
                  go_simp
                  with_reducible rfl
                rotate_left
                · simp only [Act.put, List.setIfInBounds_toArray, List.set_cons_zero, List.set_cons_succ, i64_w, i32_w]
                  rfl
                refine pure_ (i := 3) (N := some 30) (v := ?_) (a' := ?_) #[true, true, true, true, false, false, false, false, false, false, false, false, false, false, false, false, false, false, false, false, false, false, false, false, false, false, false, false, false, false, false, false, false] rfl rfl (by kernel_rfl) (fun _ _ _ h => h) (Or.inl ⟨by rfl, ?_⟩) ?_ ?_
                rotate_left
                · intro w'
                  go_simp
                  with_reducible rfl
                rotate_left
                · simp only [Act.put, List.setIfInBounds_toArray, List.set_cons_zero, List.set_cons_succ, i64_w, i32_w]
                  rfl
                refine pure_ (i := 4) (N := some 31) (v := ?_) (a' := ?_) #[true, true, true, true, true, false, false, false, false, false, false, false, false, false, false, false, false, false, false, false, false, false, false, false, false, false, false, false, false, false, false, false, false] rfl rfl (by kernel_rfl) (fun _ _ _ h => h) (Or.inl ⟨by rfl, ?_⟩) ?_ ?_
                rotate_left
                · intro w'
                  go_simp
                  with_reducible rfl
                rotate_left
                · simp only [Act.put, List.setIfInBounds_toArray, List.set_cons_zero, List.set_cons_succ, i64_w, i32_w]
                  rfl
                refine pure_ (i := 5) (N := some 32) (v := ?_) (a' := ?_) #[true, true, true, true, true, true, false, false, false, false, false, false, false, false, false, false, false, false, false, false, false, false, false, false, false, false, false, false, false, false, false, false, false] rfl rfl (by kernel_rfl) (fun _ _ _ h => h) (Or.inl ⟨by rfl, ?_⟩) ?_ ?_
                rotate_left
                · intro w'
                  go_simp
                  with_reducible rfl
                rotate_left
                · simp only [Act.put, List.setIfInBounds_toArray, List.set_cons_zero, List.set_cons_succ, i64_w, i32_w]
                  rfl
                refine pure_ (i := 6) (N := some 33) (v := ?_) (a' := ?_) #[true, true, true, true, true, true, true, false, false, false, false, false, false, false, false, false, false, false, false, false, false, false, false, false, false, false, false, false, false, false, false, false, false] rfl rfl (by kernel_rfl) (fun _ _ _ h => h) (Or.inl ⟨by rfl, ?_⟩) ?_ ?_
                rotate_left
                · intro w'
                  go_simp
                  with_reducible rfl
                rotate_left
                · simp only [Act.put, List.setIfInBounds_toArray, List.set_cons_zero, List.set_cons_succ, i64_w, i32_w]
                  rfl
                refine pure_ (i := 7) (N := some 34) (v := ?_) (a' := ?_) #[true, true, true, true, true, true, true, true, false, false, false, false, false, false, false, false, false, false, false, false, false, false, false, false, false, false, false, false, false, false, false, false, false] rfl rfl (by kernel_rfl) (fun _ _ _ h => h) (Or.inl ⟨by rfl, ?_⟩) ?_ ?_
                rotate_left
                · intro w'
                  go_simp
                  with_reducible rfl
                rotate_left
                · simp only [Act.put, List.setIfInBounds_toArray, List.set_cons_zero, List.set_cons_succ, i64_w, i32_w]
                  rfl
                refine pure_ (i := 8) (N := some 35) (v := ?_) (a' := ?_) #[true, true, true, true, true, true, true, true, true, false, false, false, false, false, false, false, false, false, false, false, false, false, false, false, false, false, false, false, false, false, false, false, false] rfl rfl (by kernel_rfl) (fun _ _ _ h => h) (Or.inl ⟨by rfl, ?_⟩) ?_ ?_
                rotate_left
                · intro w'
                  go_simp
                  with_reducible rfl
                rotate_left
                · simp only [Act.put, List.setIfInBounds_toArray, List.set_cons_zero, List.set_cons_succ, i64_w, i32_w]
                  rfl
                refine pure_ (i := 9) (N := some 36) (v := ?_) (a' := ?_) #[true, true, true, true, true, true, true, true, true, true, false, false, false, false, false, false, false, false, false, false, false, false, false, false, false, false, false, false, false, false, false, false, false] rfl rfl (by kernel_rfl) (fun _ _ _ h => h) (Or.inl ⟨by rfl, ?_⟩) ?_ ?_
                rotate_left
                · intro w'
                  go_simp
                  with_reducible rfl
                rotate_left
                · simp only [Act.put, List.setIfInBounds_toArray, List.set_cons_zero, List.set_cons_succ, i64_w, i32_w]
                  rfl
                refine pure_ (i := 10) (N := some 37) (v := ?_) (a' := ?_) #[true, true, true, true, true, true, true, true, true, true, true, false, false, false, false, false, false, false, false, false, false, false, false, false, false, false, false, false, false, false, false, false, false] rfl rfl (by kernel_rfl) (fun _ _ _ h => h) (Or.inl ⟨by rfl, ?_⟩) ?_ ?_
                rotate_left
                · intro w'
                  go_simp
                  with_reducible rfl
                rotate_left
                · simp only [Act.put, List.setIfInBounds_toArray, List.set_cons_zero, List.set_cons_succ, i64_w, i32_w]
                  rfl
                refine pure_ (i := 11) (N := some 38) (v := ?_) (a' := ?_) #[true, true, true, true, true, true, true, true, true, true, true, true, false, false, false, false, false, false, false, false, false, false, false, false, false, false, false, false, false, false, false, false, false] rfl rfl (by kernel_rfl) (fun _ _ _ h => h) (Or.inl ⟨by rfl, ?_⟩) ?_ ?_
                rotate_left
                · intro w'
                  go_simp
                  with_reducible rfl
                rotate_left
                · simp only [Act.put, List.setIfInBounds_toArray, List.set_cons_zero, List.set_cons_succ, i64_w, i32_w]
                  rfl
                refine pure_ (i := 12) (N := some 39) (v := ?_) (a' := ?_) #[true, true, true, true, true, true, true, true, true, true, true, true, true, false, false, false, false, false, false, false, false, false, false, false, false, false, false, false, false, false, false, false, false] rfl rfl (by kernel_rfl) (fun _ _ _ h => h) (Or.inl ⟨by rfl, ?_⟩) ?_ ?_
                rotate_left
                · intro w'
                  go_simp
                  with_reducible rfl
                rotate_left
                · simp only [Act.put, List.setIfInBounds_toArray, List.set_cons_zero, List.set_cons_succ, i64_w, i32_w]
                  rfl
                refine take_ (i := 13) (N := some 40) (v := ?_) (a' := ?_) #[true, true, true, true, true, true, true, true, true, true, true, true, true, true, false, false, false, false, false, false, false, false, false, false, false, false, false, false, false, false, false, false, false] rfl rfl (by kernel_rfl) (fun _ _ _ h => h) (Or.inl ⟨by rfl, ?_⟩) hHeld ?_ ?_
                rotate_left
                · rintro w' ⟨s0, s1, s2⟩
                  go_simp
                  with_reducible rfl
                rotate_left
                · simp only [Act.put, List.setIfInBounds_toArray, List.set_cons_zero, List.set_cons_succ, i64_w, i32_w]
                  rfl
                refine pure_ (i := 14) (N := some 41) (v := ?_) (a' := ?_) #[true, true, true, true, true, true, true, true, true, true, true, true, true, true, true, false, false, false, false, false, false, false, false, false, false, false, false, false, false, false, false, false, false] rfl rfl (by kernel_rfl) (fun _ _ _ h => h) (Or.inl ⟨by rfl, ?_⟩) ?_ ?_
                rotate_left
                · intro w'
                  go_simp
                  with_reducible rfl
                rotate_left
                · simp only [Act.put, List.setIfInBounds_toArray, List.set_cons_zero, List.set_cons_succ, i64_w, i32_w]
                  rfl
                refine pure_ (i := 15) (N := some 42) (v := ?_) (a' := ?_) #[true, true, true, true, true, true, true, true, true, true, true, true, true, true, true, true, false, false, false, false, false, false, false, false, false, false, false, false, false, false, false, false, false] rfl rfl (by kernel_rfl) (fun _ _ _ h => h) (Or.inl ⟨by rfl, ?_⟩) ?_ ?_
                rotate_left
                · intro w'
                  go_simp
                  with_reducible rfl
                rotate_left
                · simp only [Act.put, List.setIfInBounds_toArray, List.set_cons_zero, List.set_cons_succ, i64_w, i32_w]
                  rfl
                refine pure_ (i := 16) (N := some 43) (v := ?_) (a' := ?_) #[true, true, true, true, true, true, true, true, true, true, true, true, true, true, true, true, true, false, false, false, false, false, false, false, false, false, false, false, false, false, false, false, false] rfl rfl (by kernel_rfl) (fun _ _ _ h => h) (Or.inl ⟨by rfl, ?_⟩) ?_ ?_
                rotate_left
                · intro w'
                  go_simp
                  with_reducible rfl
                rotate_left
                · simp only [Act.put, List.setIfInBounds_toArray, List.set_cons_zero, List.set_cons_succ, i64_w, i32_w]
                  rfl
                refine pure_ (i := 17) (N := some 44) (v := ?_) (a' := ?_) #[true, true, true, true, true, true, true, true, true, true, true, true, true, true, true, true, true, true, false, false, false, false, false, false, false, false, false, false, false, false, false, false, false] rfl rfl (by kernel_rfl) (fun _ _ _ h => h) (Or.inl ⟨by rfl, ?_⟩) ?_ ?_
                rotate_left
                · intro w'
                  go_simp
                  with_reducible rfl
                rotate_left
                · simp only [Act.put, List.setIfInBounds_toArray, List.set_cons_zero, List.set_cons_succ, i64_w, i32_w]
                  rfl
                refine pure_ (i := 18) (N := some 45) (v := ?_) (a' := ?_) #[true, true, true, true, true, true, true, true, true, true, true, true, true, true, true, true, true, true, true, false, false, false, false, false, false, false, false, false, false, false, false, false, false] rfl rfl (by kernel_rfl) (fun _ _ _ h => h) (Or.inl ⟨by rfl, ?_⟩) ?_ ?_
                rotate_left
                · intro w'
                  go_simp
                  with_reducible rfl
                rotate_left
                · simp only [Act.put, List.setIfInBounds_toArray, List.set_cons_zero, List.set_cons_succ, i64_w, i32_w]
                  rfl
                refine pure_ (i := 19) (N := some 46) (v := ?_) (a' := ?_) #[true, true, true, true, true, true, true, true, true, true, true, true, true, true, true, true, true, true, true, true, false, false, false, false, false, false, false, false, false, false, false, false, false] rfl rfl (by kernel_rfl) (fun _ _ _ h => h) (Or.inl ⟨by rfl, ?_⟩) ?_ ?_
                rotate_left
                · intro w'
                  go_simp
                  with_reducible rfl
                rotate_left
                · simp only [Act.put, List.setIfInBounds_toArray, List.set_cons_zero, List.set_cons_succ, i64_w, i32_w]
                  rfl
                refine pure_ (i := 20) (N := some 47) (v := ?_) (a' := ?_) #[true, true, true, true, true, true, true, true, true, true, true, true, true, true, true, true, true, true, true, true, true, false, false, false, false, false, false, false, false, false, false, false, false] rfl rfl (by kernel_rfl) (fun _ _ _ h => h) (Or.inl ⟨by rfl, ?_⟩) ?_ ?_
                rotate_left
                · intro w'
                  go_simp
                  with_reducible rfl
                rotate_left
                · simp only [Act.put, List.setIfInBounds_toArray, List.set_cons_zero, List.set_cons_succ, i64_w, i32_w]
                  rfl
                refine pure_ (i := 21) (N := some 48) (v := ?_) (a' := ?_) #[true, true, true, true, true, true, true, true, true, true, true, true, true, true, true, true, true, true, true, true, true, true, false, false, false, false, false, false, false, false, false, false, false] rfl rfl (by kernel_rfl) (fun _ _ _ h => h) (Or.inl ⟨by rfl, ?_⟩) ?_ ?_
                rotate_left
                · intro w'
                  go_simp
                  with_reducible rfl
                rotate_left
                · simp only [Act.put, List.setIfInBounds_toArray, List.set_cons_zero, List.set_cons_succ, i64_w, i32_w]
                  rfl
                refine pure_ (i := 22) (N := some 49) (v := ?_) (a' := ?_) #[true, true, true, true, true, true, true, true, true, true, true, true, true, true, true, true, true, true, true, true, true, true, true, false, false, false, false, false, false, false, false, false, false] rfl rfl (by kernel_rfl) (fun _ _ _ h => h) (Or.inl ⟨by rfl, ?_⟩) ?_ ?_
                rotate_left
                · intro w'
                  go_simp
                  with_reducible rfl
                rotate_left
                · simp only [Act.put, List.setIfInBounds_toArray, List.set_cons_zero, List.set_cons_succ, i64_w, i32_w]
                  rfl
                refine pure_ (i := 23) (N := some 50) (v := ?_) (a' := ?_) #[true, true, true, true, true, true, true, true, true, true, true, true, true, true, true, true, true, true, true, true, true, true, true, true, false, false, false, false, false, false, false, false, false] rfl rfl (by kernel_rfl) (fun _ _ _ h => h) (Or.inl ⟨by rfl, ?_⟩) ?_ ?_
                rotate_left
                · intro w'
                  go_simp
                  with_reducible rfl
                rotate_left
                · simp only [Act.put, List.setIfInBounds_toArray, List.set_cons_zero, List.set_cons_succ, i64_w, i32_w]
                  rfl
                refine pure_ (i := 24) (N := some 51) (v := ?_) (a' := ?_) #[true, true, true, true, true, true, true, true, true, true, true, true, true, true, true, true, true, true, true, true, true, true, true, true, true, false, false, false, false, false, false, false, false] rfl rfl (by kernel_rfl) (fun _ _ _ h => h) (Or.inl ⟨by rfl, ?_⟩) ?_ ?_
                rotate_left
                · intro w'
                  go_simp
                  with_reducible rfl
                rotate_left
                · simp only [Act.put, List.setIfInBounds_toArray, List.set_cons_zero, List.set_cons_succ, i64_w, i32_w]
                  rfl
                refine pure_ (i := 25) (N := some 52) (v := ?_) (a' := ?_) #[true, true, true, true, true, true, true, true, true, true, true, true, true, true, true, true, true, true, true, true, true, true, true, true, true, true, false, false, false, false, false, false, false] rfl rfl (by kernel_rfl) (fun _ _ _ h => h) (Or.inl ⟨by rfl, ?_⟩) ?_ ?_
                rotate_left
                · intro w'
                  go_simp
                  with_reducible rfl
                rotate_left
                · simp only [Act.put, List.setIfInBounds_toArray, List.set_cons_zero, List.set_cons_succ, i64_w, i32_w]
                  rfl
                refine pure_ (i := 27) (N := some 54) (v := ?_) (a' := ?_) #[true, true, true, true, true, true, true, true, true, true, true, true, true, true, true, true, true, true, true, true, true, true, true, true, true, true, false, true, false, false, false, false, false] rfl rfl (by kernel_rfl) (fun _ _ _ h => h) (Or.inl ⟨by rfl, ?_⟩) ?_ ?_
                rotate_left
                · intro w'
                  go_simp
                  with_reducible rfl
                rotate_left
                · simp only [Act.put, List.setIfInBounds_toArray, List.set_cons_zero, List.set_cons_succ, i64_w, i32_w]
                  rfl
                refine pure_ (i := 28) (N := some 55) (v := ?_) (a' := ?_) #[true, true, true, true, true, true, true, true, true, true, true, true, true, true, true, true, true, true, true, true, true, true, true, true, true, true, false, true, true, false, false, false, false] rfl rfl (by kernel_rfl) (fun _ _ _ h => h) (Or.inl ⟨by rfl, ?_⟩) ?_ ?_
                rotate_left
                · intro w'
                  go_simp
                  with_reducible rfl
                rotate_left
                · simp only [Act.put, List.setIfInBounds_toArray, List.set_cons_zero, List.set_cons_succ, i64_w, i32_w]
                  rfl
                refine take_ (i := 26) (N := some 53) (v := ?_) (a' := ?_) #[true, true, true, true, true, true, true, true, true, true, true, true, true, true, true, true, true, true, true, true, true, true, true, true, true, true, true, true, true, false, false, false, false] rfl rfl (by kernel_rfl) (fun _ _ _ h => h) (Or.inl ⟨by rfl, ?_⟩) hHeld ?_ ?_
                rotate_left
                · rintro w' ⟨s0, s1, s2⟩
                  go_simp
                  with_reducible rfl
                rotate_left
                · simp only [Act.put, List.setIfInBounds_toArray, List.set_cons_zero, List.set_cons_succ, i64_w, i32_w]
                  rfl
                refine take_ (i := 29) (N := some 56) (v := ?_) (a' := ?_) #[true, true, true, true, true, true, true, true, true, true, true, true, true, true, true, true, true, true, true, true, true, true, true, true, true, true, true, true, true, true, false, false, false] rfl rfl (by kernel_rfl) (fun _ _ _ h => h) (Or.inl ⟨by rfl, ?_⟩) hHeld ?_ ?_
                rotate_left
                · rintro w' ⟨s0, s1, s2⟩
                  go_simp
                  with_reducible rfl
                rotate_left
                · simp only [Act.put, List.setIfInBounds_toArray, List.set_cons_zero, List.set_cons_succ, i64_w, i32_w]
                  rfl
                refine pure_ (i := 30) (N := some 57) (v := ?_) (a' := ?_) #[true, true, true, true, true, true, true, true, true, true, true, true, true, true, true, true, true, true, true, true, true, true, true, true, true, true, true, true, true, true, true, false, false] rfl rfl (by kernel_rfl) (fun _ _ _ h => h) (Or.inl ⟨by rfl, ?_⟩) ?_ ?_
                rotate_left
                · intro w'
                  go_simp
                  with_reducible rfl
                rotate_left
                · simp only [Act.put, List.setIfInBounds_toArray, List.set_cons_zero, List.set_cons_succ, i64_w, i32_w]
                  rfl
                refine pure_ (i := 31) (N := some 58) (v := ?_) (a' := ?_) #[true, true, true, true, true, true, true, true, true, true, true, true, true, true, true, true, true, true, true, true, true, true, true, true, true, true, true, true, true, true, true, true, false] rfl rfl (by kernel_rfl) (fun _ _ _ h => h) (Or.inl ⟨by rfl, ?_⟩) ?_ ?_
                rotate_left
                · intro w'
                  go_simp
                  with_reducible rfl
                rotate_left
                · simp only [Act.put, List.setIfInBounds_toArray, List.set_cons_zero, List.set_cons_succ, i64_w, i32_w]
                  rfl
                refine pure_ (i := 32) (N := some 59) (v := ?_) (a' := ?_) #[true, true, true, true, true, true, true, true, true, true, true, true, true, true, true, true, true, true, true, true, true, true, true, true, true, true, true, true, true, true, true, true, true] rfl rfl (by kernel_rfl) (fun _ _ _ h => h) (Or.inl ⟨by rfl, ?_⟩) ?_ ?_
                rotate_left
                · intro w'
                  go_simp
                  with_reducible rfl
                rotate_left
                · simp only [Act.put, List.setIfInBounds_toArray, List.set_cons_zero, List.set_cons_succ, i64_w, i32_w]
                  rfl
                refine done_ (by kernel_rfl) ?_
                go_wp2
                go_ret3
                rw [HF.out]
                exact ⟨rfl, by first | exact pw_below_drewN (below_drew HB3.out) _ | exact pw_below_drewN HB3.out _⟩
              · have HL := Lib.hid (show acc.getLast? ≠ some b by rw [last_rd acc ha0]; intro e; injection e with e; exact hx e)
                have hq : (rd acc ((acc.length : Int) - 1) == b) = false := beq_eq_false_iff_ne.mpr hx
                clear hx
                go_wp2_with fail
                refine start_ (n := 33) (S := fun w' => BQ.Rdr (fun k => w.heap.size ≤ k ∧ k < g) w' g (xs.drop (k + 1)) false ∧ w'.cell? (ad6.add (acc.length - 1)) = some (.int .u8 (rd acc ((acc.length : Int) - 1))) ∧ w'.cell? ad7 = some (.int .u8 b)) (ds := []) #[false, false, false, false, false, false, false, false, false, false, false, false, false, false, false, false, false, false, false, false, false, false, false, false, false, false, false, false, false, false, false, false, false] (by kernel_rfl) rfl rfl ⟨HR3.out.drewN 1, hx6, hx7⟩ (fun hHeld => ?_)
                refine pure_ (i := 0) (N := some 27) (v := ?_) (a' := ?_) #[true, false, false, false, false, false, false, false, false, false, false, false, false, false, false, false, false, false, false, false, false, false, false, false, false, false, false, false, false, false, false, false, false] rfl rfl (by kernel_rfl) (fun _ _ _ h => h) (Or.inl ⟨by rfl, ?_⟩) ?_ ?_
                rotate_left
                · intro w'
                  go_simp
                  with_reducible rfl
                rotate_left
                · simp only [Act.put, List.setIfInBounds_toArray, List.set_cons_zero, List.set_cons_succ, i64_w, i32_w]
                  rfl
                refine one_ (i := 1) (N := some 28) #[true, true, false, false, false, false, false, false, false, false, false, false, false, false, false, false, false, false, false, false, false, false, false, false, false, false, false, false, false, false, false, false, false] rfl rfl (by kernel_rfl) (by decide) (fun K hK => ?_)
                refine goes_ Try.func17 (by kernel_rfl) rfl #[.pointer (some ⟨g, 0, none⟩)] (by rfl) rfl rfl (by simp only [List.map_toArray, List.map_cons, List.map_nil]; rfl) ?_
                with_reducible refine (BQ.err_calls g (xs.drop (k + 1)) false _ hHeld.1).mono ?_
                rintro e w4 ⟨rfl, ⟨n4, rfl⟩⟩
                refine ⟨_, rfl, ?_⟩
                refine hK.out _ _ ⟨hHeld.1.drewN _, hHeld.2.1, hHeld.2.2⟩ (fun hHeld => ?_)
                clear hK K
                refine norm_ (a' := ?_) ?_ ?_
                rotate_left
                · show Act.put _ (some 28) _ = _
                  simp only [Act.put, List.setIfInBounds_toArray, List.set_cons_zero, List.set_cons_succ, i64_w, i32_w]
                  rfl
                refine pure_ (i := 2) (N := some 29) (v := ?_) (a' := ?_) #[true, true, true, false, false, false, false, false, false, false, false, false, false, false, false, false, false, false, false, false, false, false, false, false, false, false, false, false, false, false, false, false, false] rfl rfl (by kernel_rfl) (fun _ _ _ h => h) (Or.inl ⟨by rfl, ?_⟩) ?_ ?_
                rotate_left
                · intro w'
                  go_simp
                  with_reducible rfl
                rotate_left
                · simp only [Act.put, List.setIfInBounds_toArray, List.set_cons_zero, List.set_cons_succ, i64_w, i32_w]
                  rfl
                refine pure_ (i := 3) (N := some 30) (v := ?_) (a' := ?_) #[true, true, true, true, false, false, false, false, false, false, false, false, false, false, false, false, false, false, false, false, false, false, false, false, false, false, false, false, false, false, false, false, false] rfl rfl (by kernel_rfl) (fun _ _ _ h => h) (Or.inl ⟨by rfl, ?_⟩) ?_ ?_
                rotate_left
                · intro w'
                  go_simp
                  with_reducible rfl
                rotate_left
                · simp only [Act.put, List.setIfInBounds_toArray, List.set_cons_zero, List.set_cons_succ, i64_w, i32_w]
                  rfl
                refine pure_ (i := 4) (N := some 31) (v := ?_) (a' := ?_) #[true, true, true, true, true, false, false, false, false, false, false, false, false, false, false, false, false, false, false, false, false, false, false, false, false, false, false, false, false, false, false, false, false] rfl rfl (by kernel_rfl) (fun _ _ _ h => h) (Or.inl ⟨by rfl, ?_⟩) ?_ ?_
                rotate_left
                · intro w'
                  go_simp
                  with_reducible rfl
                rotate_left
                · simp only [Act.put, List.setIfInBounds_toArray, List.set_cons_zero, List.set_cons_succ, i64_w, i32_w]
                  rfl
                refine pure_ (i := 5) (N := some 32) (v := ?_) (a' := ?_) #[true, true, true, true, true, true, false, false, false, false, false, false, false, false, false, false, false, false, false, false, false, false, false, false, false, false, false, false, false, false, false, false, false] rfl rfl (by kernel_rfl) (fun _ _ _ h => h) (Or.inl ⟨by rfl, ?_⟩) ?_ ?_
                rotate_left
                · intro w'
                  go_simp
                  with_reducible rfl
                rotate_left
                · simp only [Act.put, List.setIfInBounds_toArray, List.set_cons_zero, List.set_cons_succ, i64_w, i32_w]
                  rfl
                refine pure_ (i := 6) (N := some 33) (v := ?_) (a' := ?_) #[true, true, true, true, true, true, true, false, false, false, false, false, false, false, false, false, false, false, false, false, false, false, false, false, false, false, false, false, false, false, false, false, false] rfl rfl (by kernel_rfl) (fun _ _ _ h => h) (Or.inl ⟨by rfl, ?_⟩) ?_ ?_
                rotate_left
                · intro w'
                  go_simp
                  with_reducible rfl
                rotate_left
                · simp only [Act.put, List.setIfInBounds_toArray, List.set_cons_zero, List.set_cons_succ, i64_w, i32_w]
                  rfl
                refine pure_ (i := 7) (N := some 34) (v := ?_) (a' := ?_) #[true, true, true, true, true, true, true, true, false, false, false, false, false, false, false, false, false, false, false, false, false, false, false, false, false, false, false, false, false, false, false, false, false] rfl rfl (by kernel_rfl) (fun _ _ _ h => h) (Or.inl ⟨by rfl, ?_⟩) ?_ ?_
                rotate_left
                · intro w'
                  go_simp
                  with_reducible rfl
                rotate_left
                · simp only [Act.put, List.setIfInBounds_toArray, List.set_cons_zero, List.set_cons_succ, i64_w, i32_w]
                  rfl
                refine pure_ (i := 8) (N := some 35) (v := ?_) (a' := ?_) #[true, true, true, true, true, true, true, true, true, false, false, false, false, false, false, false, false, false, false, false, false, false, false, false, false, false, false, false, false, false, false, false, false] rfl rfl (by kernel_rfl) (fun _ _ _ h => h) (Or.inl ⟨by rfl, ?_⟩) ?_ ?_
                rotate_left
                · intro w'
                  go_simp
                  with_reducible rfl
                rotate_left
                · simp only [Act.put, List.setIfInBounds_toArray, List.set_cons_zero, List.set_cons_succ, i64_w, i32_w]
                  rfl
                refine pure_ (i := 9) (N := some 36) (v := ?_) (a' := ?_) #[true, true, true, true, true, true, true, true, true, true, false, false, false, false, false, false, false, false, false, false, false, false, false, false, false, false, false, false, false, false, false, false, false] rfl rfl (by kernel_rfl) (fun _ _ _ h => h) (Or.inl ⟨by rfl, ?_⟩) ?_ ?_
                rotate_left
                · intro w'
                  go_simp
                  with_reducible rfl
                rotate_left
                · simp only [Act.put, List.setIfInBounds_toArray, List.set_cons_zero, List.set_cons_succ, i64_w, i32_w]
                  rfl
                refine pure_ (i := 10) (N := some 37) (v := ?_) (a' := ?_) #[true, true, true, true, true, true, true, true, true, true, true, false, false, false, false, false, false, false, false, false, false, false, false, false, false, false, false, false, false, false, false, false, false] rfl rfl (by kernel_rfl) (fun _ _ _ h => h) (Or.inl ⟨by rfl, ?_⟩) ?_ ?_
                rotate_left
                · intro w'
                  go_simp
                  with_reducible rfl
                rotate_left
                · simp only [Act.put, List.setIfInBounds_toArray, List.set_cons_zero, List.set_cons_succ, i64_w, i32_w]
                  rfl
                refine pure_ (i := 11) (N := some 38) (v := ?_) (a' := ?_) #[true, true, true, true, true, true, true, true, true, true, true, true, false, false, false, false, false, false, false, false, false, false, false, false, false, false, false, false, false, false, false, false, false] rfl rfl (by kernel_rfl) (fun _ _ _ h => h) (Or.inl ⟨by rfl, ?_⟩) ?_ ?_
                rotate_left
                · intro w'
                  go_simp
                  with_reducible rfl
                rotate_left
                · simp only [Act.put, List.setIfInBounds_toArray, List.set_cons_zero, List.set_cons_succ, i64_w, i32_w]
                  rfl
                refine pure_ (i := 12) (N := some 39) (v := ?_) (a' := ?_) #[true, true, true, true, true, true, true, true, true, true, true, true, true, false, false, false, false, false, false, false, false, false, false, false, false, false, false, false, false, false, false, false, false] rfl rfl (by kernel_rfl) (fun _ _ _ h => h) (Or.inl ⟨by rfl, ?_⟩) ?_ ?_
                rotate_left
                · intro w'
                  go_simp
                  with_reducible rfl
                rotate_left
                · simp only [Act.put, List.setIfInBounds_toArray, List.set_cons_zero, List.set_cons_succ, i64_w, i32_w]
                  rfl
                refine take_ (i := 13) (N := some 40) (v := ?_) (a' := ?_) #[true, true, true, true, true, true, true, true, true, true, true, true, true, true, false, false, false, false, false, false, false, false, false, false, false, false, false, false, false, false, false, false, false] rfl rfl (by kernel_rfl) (fun _ _ _ h => h) (Or.inl ⟨by rfl, ?_⟩) hHeld ?_ ?_
                rotate_left
                · rintro w' ⟨s0, s1, s2⟩
                  go_simp
                  with_reducible rfl
                rotate_left
                · simp only [Act.put, List.setIfInBounds_toArray, List.set_cons_zero, List.set_cons_succ, i64_w, i32_w]
                  rfl
                refine pure_ (i := 14) (N := some 41) (v := ?_) (a' := ?_) #[true, true, true, true, true, true, true, true, true, true, true, true, true, true, true, false, false, false, false, false, false, false, false, false, false, false, false, false, false, false, false, false, false] rfl rfl (by kernel_rfl) (fun _ _ _ h => h) (Or.inl ⟨by rfl, ?_⟩) ?_ ?_
                rotate_left
                · intro w'
                  go_simp
                  with_reducible rfl
                rotate_left
                · simp only [Act.put, List.setIfInBounds_toArray, List.set_cons_zero, List.set_cons_succ, i64_w, i32_w]
                  rfl
                refine pure_ (i := 15) (N := some 42) (v := ?_) (a' := ?_) #[true, true, true, true, true, true, true, true, true, true, true, true, true, true, true, true, false, false, false, false, false, false, false, false, false, false, false, false, false, false, false, false, false] rfl rfl (by kernel_rfl) (fun _ _ _ h => h) (Or.inl ⟨by rfl, ?_⟩) ?_ ?_
                rotate_left
                · intro w'
                  go_simp
                  with_reducible rfl
                rotate_left
                · simp only [Act.put, List.setIfInBounds_toArray, List.set_cons_zero, List.set_cons_succ, i64_w, i32_w]
                  rfl
                refine pure_ (i := 16) (N := some 43) (v := ?_) (a' := ?_) #[true, true, true, true, true, true, true, true, true, true, true, true, true, true, true, true, true, false, false, false, false, false, false, false, false, false, false, false, false, false, false, false, false] rfl rfl (by kernel_rfl) (fun _ _ _ h => h) (Or.inl ⟨by rfl, ?_⟩) ?_ ?_
                rotate_left
                · intro w'
                  go_simp
                  with_reducible rfl
                rotate_left
                · simp only [Act.put, List.setIfInBounds_toArray, List.set_cons_zero, List.set_cons_succ, i64_w, i32_w]
                  rfl
                refine pure_ (i := 17) (N := some 44) (v := ?_) (a' := ?_) #[true, true, true, true, true, true, true, true, true, true, true, true, true, true, true, true, true, true, false, false, false, false, false, false, false, false, false, false, false, false, false, false, false] rfl rfl (by kernel_rfl) (fun _ _ _ h => h) (Or.inl ⟨by rfl, ?_⟩) ?_ ?_
                rotate_left
                · intro w'
                  go_simp
                  with_reducible rfl
                rotate_left
                · simp only [Act.put, List.setIfInBounds_toArray, List.set_cons_zero, List.set_cons_succ, i64_w, i32_w]
                  rfl
                refine pure_ (i := 18) (N := some 45) (v := ?_) (a' := ?_) #[true, true, true, true, true, true, true, true, true, true, true, true, true, true, true, true, true, true, true, false, false, false, false, false, false, false, false, false, false, false, false, false, false] rfl rfl (by kernel_rfl) (fun _ _ _ h => h) (Or.inl ⟨by rfl, ?_⟩) ?_ ?_
                rotate_left
                · intro w'
                  go_simp
                  with_reducible rfl
                rotate_left
                · simp only [Act.put, List.setIfInBounds_toArray, List.set_cons_zero, List.set_cons_succ, i64_w, i32_w]
                  rfl
                refine pure_ (i := 19) (N := some 46) (v := ?_) (a' := ?_) #[true, true, true, true, true, true, true, true, true, true, true, true, true, true, true, true, true, true, true, true, false, false, false, false, false, false, false, false, false, false, false, false, false] rfl rfl (by kernel_rfl) (fun _ _ _ h => h) (Or.inl ⟨by rfl, ?_⟩) ?_ ?_
                rotate_left
                · intro w'
                  go_simp
                  with_reducible rfl
                rotate_left
                · simp only [Act.put, List.setIfInBounds_toArray, List.set_cons_zero, List.set_cons_succ, i64_w, i32_w]
                  rfl
                refine pure_ (i := 20) (N := some 47) (v := ?_) (a' := ?_) #[true, true, true, true, true, true, true, true, true, true, true, true, true, true, true, true, true, true, true, true, true, false, false, false, false, false, false, false, false, false, false, false, false] rfl rfl (by kernel_rfl) (fun _ _ _ h => h) (Or.inl ⟨by rfl, ?_⟩) ?_ ?_
                rotate_left
                · intro w'
                  go_simp
                  with_reducible rfl
                rotate_left
                · simp only [Act.put, List.setIfInBounds_toArray, List.set_cons_zero, List.set_cons_succ, i64_w, i32_w]
                  rfl
                refine pure_ (i := 21) (N := some 48) (v := ?_) (a' := ?_) #[true, true, true, true, true, true, true, true, true, true, true, true, true, true, true, true, true, true, true, true, true, true, false, false, false, false, false, false, false, false, false, false, false] rfl rfl (by kernel_rfl) (fun _ _ _ h => h) (Or.inl ⟨by rfl, ?_⟩) ?_ ?_
                rotate_left
                · intro w'
                  go_simp
                  with_reducible rfl
                rotate_left
                · simp only [Act.put, List.setIfInBounds_toArray, List.set_cons_zero, List.set_cons_succ, i64_w, i32_w]
                  rfl
                refine pure_ (i := 22) (N := some 49) (v := ?_) (a' := ?_) #[true, true, true, true, true, true, true, true, true, true, true, true, true, true, true, true, true, true, true, true, true, true, true, false, false, false, false, false, false, false, false, false, false] rfl rfl (by kernel_rfl) (fun _ _ _ h => h) (Or.inl ⟨by rfl, ?_⟩) ?_ ?_
                rotate_left
                · intro w'
                  go_simp
                  with_reducible rfl
                rotate_left
                · simp only [Act.put, List.setIfInBounds_toArray, List.set_cons_zero, List.set_cons_succ, i64_w, i32_w]
                  rfl
                refine pure_ (i := 23) (N := some 50) (v := ?_) (a' := ?_) #[true, true, true, true, true, true, true, true, true, true, true, true, true, true, true, true, true, true, true, true, true, true, true, true, false, false, false, false, false, false, false, false, false] rfl rfl (by kernel_rfl) (fun _ _ _ h => h) (Or.inl ⟨by rfl, ?_⟩) ?_ ?_
                rotate_left
                · intro w'
                  go_simp
                  with_reducible rfl
                rotate_left
                · simp only [Act.put, List.setIfInBounds_toArray, List.set_cons_zero, List.set_cons_succ, i64_w, i32_w]
                  rfl
                refine pure_ (i := 24) (N := some 51) (v := ?_) (a' := ?_) #[true, true, true, true, true, true, true, true, true, true, true, true, true, true, true, true, true, true, true, true, true, true, true, true, true, false, false, false, false, false, false, false, false] rfl rfl (by kernel_rfl) (fun _ _ _ h => h) (Or.inl ⟨by rfl, ?_⟩) ?_ ?_
                rotate_left
                · intro w'
                  go_simp
                  with_reducible rfl
                rotate_left
                · simp only [Act.put, List.setIfInBounds_toArray, List.set_cons_zero, List.set_cons_succ, i64_w, i32_w]
                  rfl
                refine pure_ (i := 25) (N := some 52) (v := ?_) (a' := ?_) #[true, true, true, true, true, true, true, true, true, true, true, true, true, true, true, true, true, true, true, true, true, true, true, true, true, true, false, false, false, false, false, false, false] rfl rfl (by kernel_rfl) (fun _ _ _ h => h) (Or.inl ⟨by rfl, ?_⟩) ?_ ?_
                rotate_left
                · intro w'
                  go_simp
                  with_reducible rfl
                rotate_left
                · simp only [Act.put, List.setIfInBounds_toArray, List.set_cons_zero, List.set_cons_succ, i64_w, i32_w]
                  rfl
                refine pure_ (i := 27) (N := some 54) (v := ?_) (a' := ?_) #[true, true, true, true, true, true, true, true, true, true, true, true, true, true, true, true, true, true, true, true, true, true, true, true, true, true, false, true, false, false, false, false, false] rfl rfl (by kernel_rfl) (fun _ _ _ h => h) (Or.inl ⟨by rfl, ?_⟩) ?_ ?_
                rotate_left
                · intro w'
                  go_simp
                  with_reducible rfl
                rotate_left
                · simp only [Act.put, List.setIfInBounds_toArray, List.set_cons_zero, List.set_cons_succ, i64_w, i32_w]
                  rfl
                refine pure_ (i := 28) (N := some 55) (v := ?_) (a' := ?_) #[true, true, true, true, true, true, true, true, true, true, true, true, true, true, true, true, true, true, true, true, true, true, true, true, true, true, false, true, true, false, false, false, false] rfl rfl (by kernel_rfl) (fun _ _ _ h => h) (Or.inl ⟨by rfl, ?_⟩) ?_ ?_
                rotate_left
                · intro w'
                  go_simp
                  with_reducible rfl
                rotate_left
                · simp only [Act.put, List.setIfInBounds_toArray, List.set_cons_zero, List.set_cons_succ, i64_w, i32_w]
                  rfl
                refine take_ (i := 26) (N := some 53) (v := ?_) (a' := ?_) #[true, true, true, true, true, true, true, true, true, true, true, true, true, true, true, true, true, true, true, true, true, true, true, true, true, true, true, true, true, false, false, false, false] rfl rfl (by kernel_rfl) (fun _ _ _ h => h) (Or.inl ⟨by rfl, ?_⟩) hHeld ?_ ?_
                rotate_left
                · rintro w' ⟨s0, s1, s2⟩
                  go_simp
                  with_reducible rfl
                rotate_left
                · simp only [Act.put, List.setIfInBounds_toArray, List.set_cons_zero, List.set_cons_succ, i64_w, i32_w]
                  rfl
                refine take_ (i := 29) (N := some 56) (v := ?_) (a' := ?_) #[true, true, true, true, true, true, true, true, true, true, true, true, true, true, true, true, true, true, true, true, true, true, true, true, true, true, true, true, true, true, false, false, false] rfl rfl (by kernel_rfl) (fun _ _ _ h => h) (Or.inl ⟨by rfl, ?_⟩) hHeld ?_ ?_
                rotate_left
                · rintro w' ⟨s0, s1, s2⟩
                  go_simp
                  with_reducible rfl
                rotate_left
                · simp only [Act.put, List.setIfInBounds_toArray, List.set_cons_zero, List.set_cons_succ, i64_w, i32_w]
                  rfl
                refine pure_ (i := 30) (N := some 57) (v := ?_) (a' := ?_) #[true, true, true, true, true, true, true, true, true, true, true, true, true, true, true, true, true, true, true, true, true, true, true, true, true, true, true, true, true, true, true, false, false] rfl rfl (by kernel_rfl) (fun _ _ _ h => h) (Or.inl ⟨by rfl, ?_⟩) ?_ ?_
                rotate_left
                · intro w'
                  go_simp
                  with_reducible rfl
                rotate_left
                · simp only [Act.put, List.setIfInBounds_toArray, List.set_cons_zero, List.set_cons_succ, i64_w, i32_w]
                  rfl
                refine pure_ (i := 31) (N := some 58) (v := ?_) (a' := ?_) #[true, true, true, true, true, true, true, true, true, true, true, true, true, true, true, true, true, true, true, true, true, true, true, true, true, true, true, true, true, true, true, true, false] rfl rfl (by kernel_rfl) (fun _ _ _ h => h) (Or.inl ⟨by rfl, ?_⟩) ?_ ?_
                rotate_left
                · intro w'
                  go_simp
                  with_reducible rfl
                rotate_left
                · simp only [Act.put, List.setIfInBounds_toArray, List.set_cons_zero, List.set_cons_succ, i64_w, i32_w]
                  rfl
                refine pure_ (i := 32) (N := some 59) (v := ?_) (a' := ?_) #[true, true, true, true, true, true, true, true, true, true, true, true, true, true, true, true, true, true, true, true, true, true, true, true, true, true, true, true, true, true, true, true, true] rfl rfl (by kernel_rfl) (fun _ _ _ h => h) (Or.inl ⟨by rfl, ?_⟩) ?_ ?_
                rotate_left
                · intro w'
                  go_simp
                  with_reducible rfl
                rotate_left
                · simp only [Act.put, List.setIfInBounds_toArray, List.set_cons_zero, List.set_cons_succ, i64_w, i32_w]
                  rfl
                refine done_ (by kernel_rfl) ?_
                have hmle : m ≤ n - acc.length := by omega
                clear hwm hmn1 hmn2 hwi p1 p2 p3 hq hx6 hx7 hm1 ha1 hn1 hn2 hd
                have HG2 := Lib.hid (show G = getG f n (xs.drop (k + 1)) (acc ++ List.replicate m b) by
                  rw [HGj.out, getG_go _ _ _ _ hlt (by
                    refine decide_eq_false ?_
                    rw [Hd.out]
                    simp only
                    rw [Hbx.out]
                    rintro (h | h | h | h | h)
                    · exact hk0 h
                    · omega
                    · exact hm0 h
                    · exact absurd h (by omega)
                    · exact HL.out h), Hd.out]
                  simp only
                  rw [Hbx.out])
                have hw1 : IntKind.i64.wrap (m : Int) = (m : Int) := by rw [IntKind.wrap_i64]; omega
                have hw2 : wrap64 (m : Int) = (m : Int) := by unfold wrap64; omega
                obtain ⟨u, hu⟩ := byte_of b hb01.1 hb01.2
                go_wp2_with fail
                clear hw1 hw2
                obtain ⟨W4, hW4⟩ : ∃ W4, W4 = w3.drewN (1 + n4) := ⟨_, rfl⟩
                have BD : Below w3.heap.size w3 W4 := by rw [hW4]; exact pw_below_drewN (Below.refl _ _) _
                rw [← hW4]
                refine (repeat_calls (some ad7) c7 u m W4 (by rw [hu]; exact HT7.out.below BD) hc7 (by omega) (by omega)).mono ?_; rintro e w5 ⟨A5, c5, rfl, hc5, hr5, hb5⟩
                rw [hu] at hr5
                have hl5 := hr5.1
                have HR5 := Lib.hid ((HR3.out.below BD).below hb5)
                have HO5 := Lib.hid (OB.below (OB.below HO3.out BD) hb5)
                have HB5 := Lib.hid (below_step (below_step HB3.out BD) hb5)
                have HRR := Lib.hid hr5
                have hs5 : g + 1 ≤ w5.heap.size := by have := BD.size; have := hb5.size; omega
                clear hr5 hb5 BD
                go_wp2_with (at_builtin; refine print_append_row (w0 := w5) (g + 1) rfl (.tmp 60) (.tmp 64) 22 5 .u8 1 rfl Try.underlying22 infoU8 (by decide) (.slice (some ad6) acc.length c6) acc (List.replicate m b) A5 m c5 rfl rfl HO5.out HRR.out (Below.refl _ _) hs5 (by omega) ?_; intro v6 w6 hown6 hb6 hg6 hat6; have HO6 := Lib.hid hown6; have HB6 := Lib.hid hb6; have HG6 := Lib.hid hg6; clear hown6 hb6 hg6 hat6)
                go_roundg (n - (acc.length + m))
                case measure => omega
                case rel => exact ⟨acc ++ List.replicate m b, xs.drop (k + 1), f, ⟨HO6.out⟩, ⟨HR5.out.far HG6.out (fun e => by have := own_base HO5.out g e.symm; omega) (fun q e hq => by have := own_base HO5.out q e; omega)⟩, ⟨HG2.out⟩, by rw [List.length_append, List.length_replicate]; omega, by rw [List.length_append, List.length_replicate]; omega, by rw [List.length_append, List.length_replicate]; omega, by rw [List.length_drop]; omega, ⟨HB5.out.trans (HB6.out.mono (by omega))⟩⟩
            · have ha1 := decide_eq_false (show ¬ (0 : Int) < (acc.length : Int) by omega)
              have HL := Lib.hid (show acc.getLast? ≠ some b by rw [List.eq_nil_of_length_eq_zero (show acc.length = 0 by omega)]; simp)
              go_wp2_with fail
              refine start_ (n := 33) (S := fun w' => BQ.Rdr (fun k => w.heap.size ≤ k ∧ k < g) w' g (xs.drop (k + 1)) false) (ds := []) #[false, false, false, false, false, false, false, false, false, false, false, false, false, false, false, false, false, false, false, false, false, false, false, false, false, false, false, false, false, false, false, false, false] (by kernel_rfl) rfl rfl (HR3.out.drewN 1) (fun hHeld => ?_)
              refine pure_ (i := 0) (N := some 27) (v := ?_) (a' := ?_) #[true, false, false, false, false, false, false, false, false, false, false, false, false, false, false, false, false, false, false, false, false, false, false, false, false, false, false, false, false, false, false, false, false] rfl rfl (by kernel_rfl) (fun _ _ _ h => h) (Or.inl ⟨by rfl, ?_⟩) ?_ ?_
              rotate_left
              · intro w'
                go_simp
                with_reducible rfl
              rotate_left
              · simp only [Act.put, List.setIfInBounds_toArray, List.set_cons_zero, List.set_cons_succ, i64_w, i32_w]
                rfl
              refine one_ (i := 1) (N := some 28) #[true, true, false, false, false, false, false, false, false, false, false, false, false, false, false, false, false, false, false, false, false, false, false, false, false, false, false, false, false, false, false, false, false] rfl rfl (by kernel_rfl) (by decide) (fun K hK => ?_)
              refine goes_ Try.func17 (by kernel_rfl) rfl #[.pointer (some ⟨g, 0, none⟩)] (by rfl) rfl rfl (by simp only [List.map_toArray, List.map_cons, List.map_nil]; rfl) ?_
              with_reducible refine (BQ.err_calls g (xs.drop (k + 1)) false _ hHeld).mono ?_
              rintro e w4 ⟨rfl, ⟨n4, rfl⟩⟩
              refine ⟨_, rfl, ?_⟩
              refine hK.out _ _ (hHeld.drewN _) (fun hHeld => ?_)
              clear hK K
              refine norm_ (a' := ?_) ?_ ?_
              rotate_left
              · show Act.put _ (some 28) _ = _
                simp only [Act.put, List.setIfInBounds_toArray, List.set_cons_zero, List.set_cons_succ, i64_w, i32_w]
                rfl
              refine pure_ (i := 2) (N := some 29) (v := ?_) (a' := ?_) #[true, true, true, false, false, false, false, false, false, false, false, false, false, false, false, false, false, false, false, false, false, false, false, false, false, false, false, false, false, false, false, false, false] rfl rfl (by kernel_rfl) (fun _ _ _ h => h) (Or.inl ⟨by rfl, ?_⟩) ?_ ?_
              rotate_left
              · intro w'
                go_simp
                with_reducible rfl
              rotate_left
              · simp only [Act.put, List.setIfInBounds_toArray, List.set_cons_zero, List.set_cons_succ, i64_w, i32_w]
                rfl
              refine pure_ (i := 3) (N := some 30) (v := ?_) (a' := ?_) #[true, true, true, true, false, false, false, false, false, false, false, false, false, false, false, false, false, false, false, false, false, false, false, false, false, false, false, false, false, false, false, false, false] rfl rfl (by kernel_rfl) (fun _ _ _ h => h) (Or.inl ⟨by rfl, ?_⟩) ?_ ?_
              rotate_left
              · intro w'
                go_simp
                with_reducible rfl
              rotate_left
              · simp only [Act.put, List.setIfInBounds_toArray, List.set_cons_zero, List.set_cons_succ, i64_w, i32_w]
                rfl
              refine pure_ (i := 4) (N := some 31) (v := ?_) (a' := ?_) #[true, true, true, true, true, false, false, false, false, false, false, false, false, false, false, false, false, false, false, false, false, false, false, false, false, false, false, false, false, false, false, false, false] rfl rfl (by kernel_rfl) (fun _ _ _ h => h) (Or.inl ⟨by rfl, ?_⟩) ?_ ?_
              rotate_left
              · intro w'
                go_simp
                with_reducible rfl
              rotate_left
              · simp only [Act.put, List.setIfInBounds_toArray, List.set_cons_zero, List.set_cons_succ, i64_w, i32_w]
                rfl
              refine pure_ (i := 5) (N := some 32) (v := ?_) (a' := ?_) #[true, true, true, true, true, true, false, false, false, false, false, false, false, false, false, false, false, false, false, false, false, false, false, false, false, false, false, false, false, false, false, false, false] rfl rfl (by kernel_rfl) (fun _ _ _ h => h) (Or.inl ⟨by rfl, ?_⟩) ?_ ?_
              rotate_left
              · intro w'
                go_simp
                with_reducible rfl
              rotate_left
              · simp only [Act.put, List.setIfInBounds_toArray, List.set_cons_zero, List.set_cons_succ, i64_w, i32_w]
                rfl
              refine pure_ (i := 6) (N := some 33) (v := ?_) (a' := ?_) #[true, true, true, true, true, true, true, false, false, false, false, false, false, false, false, false, false, false, false, false, false, false, false, false, false, false, false, false, false, false, false, false, false] rfl rfl (by kernel_rfl) (fun _ _ _ h => h) (Or.inl ⟨by rfl, ?_⟩) ?_ ?_
              rotate_left
              · intro w'
                go_simp
                with_reducible rfl
              rotate_left
              · simp only [Act.put, List.setIfInBounds_toArray, List.set_cons_zero, List.set_cons_succ, i64_w, i32_w]
                rfl
              refine pure_ (i := 7) (N := some 34) (v := ?_) (a' := ?_) #[true, true, true, true, true, true, true, true, false, false, false, false, false, false, false, false, false, false, false, false, false, false, false, false, false, false, false, false, false, false, false, false, false] rfl rfl (by kernel_rfl) (fun _ _ _ h => h) (Or.inl ⟨by rfl, ?_⟩) ?_ ?_
              rotate_left
              · intro w'
                go_simp
                with_reducible rfl
              rotate_left
              · simp only [Act.put, List.setIfInBounds_toArray, List.set_cons_zero, List.set_cons_succ, i64_w, i32_w]
                rfl
              refine pure_ (i := 8) (N := some 35) (v := ?_) (a' := ?_) #[true, true, true, true, true, true, true, true, true, false, false, false, false, false, false, false, false, false, false, false, false, false, false, false, false, false, false, false, false, false, false, false, false] rfl rfl (by kernel_rfl) (fun _ _ _ h => h) (Or.inl ⟨by rfl, ?_⟩) ?_ ?_
              rotate_left
              · intro w'
                go_simp
                with_reducible rfl
              rotate_left
              · simp only [Act.put, List.setIfInBounds_toArray, List.set_cons_zero, List.set_cons_succ, i64_w, i32_w]
                rfl
              refine pure_ (i := 9) (N := some 36) (v := ?_) (a' := ?_) #[true, true, true, true, true, true, true, true, true, true, false, false, false, false, false, false, false, false, false, false, false, false, false, false, false, false, false, false, false, false, false, false, false] rfl rfl (by kernel_rfl) (fun _ _ _ h => h) (Or.inl ⟨by rfl, ?_⟩) ?_ ?_
              rotate_left
              · intro w'
                go_simp
                with_reducible rfl
              rotate_left
              · simp only [Act.put, List.setIfInBounds_toArray, List.set_cons_zero, List.set_cons_succ, i64_w, i32_w]
                rfl
              refine pure_ (i := 10) (N := some 37) (v := ?_) (a' := ?_) #[true, true, true, true, true, true, true, true, true, true, true, false, false, false, false, false, false, false, false, false, false, false, false, false, false, false, false, false, false, false, false, false, false] rfl rfl (by kernel_rfl) (fun _ _ _ h => h) (Or.inl ⟨by rfl, ?_⟩) ?_ ?_
              rotate_left
              · intro w'
                go_simp
                with_reducible rfl
              rotate_left
              · simp only [Act.put, List.setIfInBounds_toArray, List.set_cons_zero, List.set_cons_succ, i64_w, i32_w]
                rfl
              refine pure_ (i := 11) (N := some 38) (v := ?_) (a' := ?_) #[true, true, true, true, true, true, true, true, true, true, true, true, false, false, false, false, false, false, false, false, false, false, false, false, false, false, false, false, false, false, false, false, false] rfl rfl (by kernel_rfl) (fun _ _ _ h => h) (Or.inl ⟨by rfl, ?_⟩) ?_ ?_
              rotate_left
              · intro w'
                go_simp
                with_reducible rfl
              rotate_left
              · simp only [Act.put, List.setIfInBounds_toArray, List.set_cons_zero, List.set_cons_succ, i64_w, i32_w]
                rfl
              refine pure_ (i := 12) (N := some 39) (v := ?_) (a' := ?_) #[true, true, true, true, true, true, true, true, true, true, true, true, true, false, false, false, false, false, false, false, false, false, false, false, false, false, false, false, false, false, false, false, false] rfl rfl (by kernel_rfl) (fun _ _ _ h => h) (Or.inl ⟨by rfl, ?_⟩) ?_ ?_
              rotate_left
              · intro w'
                go_simp
                with_reducible rfl
              rotate_left
              · simp only [Act.put, List.setIfInBounds_toArray, List.set_cons_zero, List.set_cons_succ, i64_w, i32_w]
                rfl
              refine take_ (i := 13) (N := some 40) (v := ?_) (a' := ?_) #[true, true, true, true, true, true, true, true, true, true, true, true, true, true, false, false, false, false, false, false, false, false, false, false, false, false, false, false, false, false, false, false, false] rfl rfl (by kernel_rfl) (fun _ _ _ h => h) (Or.inl ⟨by rfl, ?_⟩) hHeld ?_ ?_
              rotate_left
              · intro w' s0
                go_simp
                with_reducible rfl
              rotate_left
              · simp only [Act.put, List.setIfInBounds_toArray, List.set_cons_zero, List.set_cons_succ, i64_w, i32_w]
                rfl
              refine pure_ (i := 14) (N := some 41) (v := ?_) (a' := ?_) #[true, true, true, true, true, true, true, true, true, true, true, true, true, true, true, false, false, false, false, false, false, false, false, false, false, false, false, false, false, false, false, false, false] rfl rfl (by kernel_rfl) (fun _ _ _ h => h) (Or.inl ⟨by rfl, ?_⟩) ?_ ?_
              rotate_left
              · intro w'
                go_simp
                with_reducible rfl
              rotate_left
              · simp only [Act.put, List.setIfInBounds_toArray, List.set_cons_zero, List.set_cons_succ, i64_w, i32_w]
                rfl
              refine pure_ (i := 15) (N := some 42) (v := ?_) (a' := ?_) #[true, true, true, true, true, true, true, true, true, true, true, true, true, true, true, true, false, false, false, false, false, false, false, false, false, false, false, false, false, false, false, false, false] rfl rfl (by kernel_rfl) (fun _ _ _ h => h) (Or.inl ⟨by rfl, ?_⟩) ?_ ?_
              rotate_left
              · intro w'
                go_simp
                with_reducible rfl
              rotate_left
              · simp only [Act.put, List.setIfInBounds_toArray, List.set_cons_zero, List.set_cons_succ, i64_w, i32_w]
                rfl
              refine pure_ (i := 16) (N := some 43) (v := ?_) (a' := ?_) #[true, true, true, true, true, true, true, true, true, true, true, true, true, true, true, true, true, false, false, false, false, false, false, false, false, false, false, false, false, false, false, false, false] rfl rfl (by kernel_rfl) (fun _ _ _ h => h) (Or.inl ⟨by rfl, ?_⟩) ?_ ?_
              rotate_left
              · intro w'
                go_simp
                with_reducible rfl
              rotate_left
              · simp only [Act.put, List.setIfInBounds_toArray, List.set_cons_zero, List.set_cons_succ, i64_w, i32_w]
                rfl
              refine pure_ (i := 17) (N := some 44) (v := ?_) (a' := ?_) #[true, true, true, true, true, true, true, true, true, true, true, true, true, true, true, true, true, true, false, false, false, false, false, false, false, false, false, false, false, false, false, false, false] rfl rfl (by kernel_rfl) (fun _ _ _ h => h) (Or.inl ⟨by rfl, ?_⟩) ?_ ?_
              rotate_left
              · intro w'
                go_simp
                with_reducible rfl
              rotate_left
              · simp only [Act.put, List.setIfInBounds_toArray, List.set_cons_zero, List.set_cons_succ, i64_w, i32_w]
                rfl
              refine pure_ (i := 18) (N := some 45) (v := ?_) (a' := ?_) #[true, true, true, true, true, true, true, true, true, true, true, true, true, true, true, true, true, true, true, false, false, false, false, false, false, false, false, false, false, false, false, false, false] rfl rfl (by kernel_rfl) (fun _ _ _ h => h) (Or.inl ⟨by rfl, ?_⟩) ?_ ?_
              rotate_left
              · intro w'
                go_simp
                with_reducible rfl
              rotate_left
              · simp only [Act.put, List.setIfInBounds_toArray, List.set_cons_zero, List.set_cons_succ, i64_w, i32_w]
                rfl
              refine pure_ (i := 19) (N := some 46) (v := ?_) (a' := ?_) #[true, true, true, true, true, true, true, true, true, true, true, true, true, true, true, true, true, true, true, true, false, false, false, false, false, false, false, false, false, false, false, false, false] rfl rfl (by kernel_rfl) (fun _ _ _ h => h) (Or.inl ⟨by rfl, ?_⟩) ?_ ?_
              rotate_left
              · intro w'
                go_simp
                with_reducible rfl
              rotate_left
              · simp only [Act.put, List.setIfInBounds_toArray, List.set_cons_zero, List.set_cons_succ, i64_w, i32_w]
                rfl
              refine pure_ (i := 20) (N := some 47) (v := ?_) (a' := ?_) #[true, true, true, true, true, true, true, true, true, true, true, true, true, true, true, true, true, true, true, true, true, false, false, false, false, false, false, false, false, false, false, false, false] rfl rfl (by kernel_rfl) (fun _ _ _ h => h) (Or.inl ⟨by rfl, ?_⟩) ?_ ?_
              rotate_left
              · intro w'
                go_simp
                with_reducible rfl
              rotate_left
              · simp only [Act.put, List.setIfInBounds_toArray, List.set_cons_zero, List.set_cons_succ, i64_w, i32_w]
                rfl
              refine pure_ (i := 21) (N := some 48) (v := undef) (a' := ?_) #[true, true, true, true, true, true, true, true, true, true, true, true, true, true, true, true, true, true, true, true, true, true, false, false, false, false, false, false, false, false, false, false, false] rfl rfl (by kernel_rfl) (fun _ _ _ h => h) (Or.inr ⟨by rfl, rfl⟩) ?_ ?_
              rotate_left
              · simp only [Act.put, List.setIfInBounds_toArray, List.set_cons_zero, List.set_cons_succ, i64_w, i32_w]
                rfl
              refine pure_ (i := 22) (N := some 49) (v := undef) (a' := ?_) #[true, true, true, true, true, true, true, true, true, true, true, true, true, true, true, true, true, true, true, true, true, true, true, false, false, false, false, false, false, false, false, false, false] rfl rfl (by kernel_rfl) (fun _ _ _ h => h) (Or.inr ⟨by rfl, rfl⟩) ?_ ?_
              rotate_left
              · simp only [Act.put, List.setIfInBounds_toArray, List.set_cons_zero, List.set_cons_succ, i64_w, i32_w]
                rfl
              refine pure_ (i := 23) (N := some 50) (v := undef) (a' := ?_) #[true, true, true, true, true, true, true, true, true, true, true, true, true, true, true, true, true, true, true, true, true, true, true, true, false, false, false, false, false, false, false, false, false] rfl rfl (by kernel_rfl) (fun _ _ _ h => h) (Or.inr ⟨by rfl, rfl⟩) ?_ ?_
              rotate_left
              · simp only [Act.put, List.setIfInBounds_toArray, List.set_cons_zero, List.set_cons_succ, i64_w, i32_w]
                rfl
              refine pure_ (i := 24) (N := some 51) (v := undef) (a' := ?_) #[true, true, true, true, true, true, true, true, true, true, true, true, true, true, true, true, true, true, true, true, true, true, true, true, true, false, false, false, false, false, false, false, false] rfl rfl (by kernel_rfl) (fun _ _ _ h => h) (Or.inr ⟨by rfl, rfl⟩) ?_ ?_
              rotate_left
              · simp only [Act.put, List.setIfInBounds_toArray, List.set_cons_zero, List.set_cons_succ, i64_w, i32_w]
                rfl
              refine pure_ (i := 25) (N := some 52) (v := undef) (a' := ?_) #[true, true, true, true, true, true, true, true, true, true, true, true, true, true, true, true, true, true, true, true, true, true, true, true, true, true, false, false, false, false, false, false, false] rfl rfl (by kernel_rfl) (fun _ _ _ h => h) (Or.inr ⟨by rfl, rfl⟩) ?_ ?_
              rotate_left
              · simp only [Act.put, List.setIfInBounds_toArray, List.set_cons_zero, List.set_cons_succ, i64_w, i32_w]
                rfl
              refine pure_ (i := 26) (N := some 53) (v := undef) (a' := ?_) #[true, true, true, true, true, true, true, true, true, true, true, true, true, true, true, true, true, true, true, true, true, true, true, true, true, true, true, false, false, false, false, false, false] rfl rfl (by kernel_rfl) (fun _ _ _ h => h) (Or.inr ⟨by rfl, rfl⟩) ?_ ?_
              rotate_left
              · simp only [Act.put, List.setIfInBounds_toArray, List.set_cons_zero, List.set_cons_succ, i64_w, i32_w]
                rfl
              refine pure_ (i := 27) (N := some 54) (v := undef) (a' := ?_) #[true, true, true, true, true, true, true, true, true, true, true, true, true, true, true, true, true, true, true, true, true, true, true, true, true, true, true, true, false, false, false, false, false] rfl rfl (by kernel_rfl) (fun _ _ _ h => h) (Or.inr ⟨by rfl, rfl⟩) ?_ ?_
              rotate_left
              · simp only [Act.put, List.setIfInBounds_toArray, List.set_cons_zero, List.set_cons_succ, i64_w, i32_w]
                rfl
              refine pure_ (i := 28) (N := some 55) (v := undef) (a' := ?_) #[true, true, true, true, true, true, true, true, true, true, true, true, true, true, true, true, true, true, true, true, true, true, true, true, true, true, true, true, true, false, false, false, false] rfl rfl (by kernel_rfl) (fun _ _ _ h => h) (Or.inr ⟨by rfl, rfl⟩) ?_ ?_
              rotate_left
              · simp only [Act.put, List.setIfInBounds_toArray, List.set_cons_zero, List.set_cons_succ, i64_w, i32_w]
                rfl
              refine pure_ (i := 29) (N := some 56) (v := undef) (a' := ?_) #[true, true, true, true, true, true, true, true, true, true, true, true, true, true, true, true, true, true, true, true, true, true, true, true, true, true, true, true, true, true, false, false, false] rfl rfl (by kernel_rfl) (fun _ _ _ h => h) (Or.inr ⟨by rfl, rfl⟩) ?_ ?_
              rotate_left
              · simp only [Act.put, List.setIfInBounds_toArray, List.set_cons_zero, List.set_cons_succ, i64_w, i32_w]
                rfl
              refine pure_ (i := 30) (N := some 57) (v := undef) (a' := ?_) #[true, true, true, true, true, true, true, true, true, true, true, true, true, true, true, true, true, true, true, true, true, true, true, true, true, true, true, true, true, true, true, false, false] rfl rfl (by kernel_rfl) (fun _ _ _ h => h) (Or.inr ⟨by rfl, rfl⟩) ?_ ?_
              rotate_left
              · simp only [Act.put, List.setIfInBounds_toArray, List.set_cons_zero, List.set_cons_succ, i64_w, i32_w]
                rfl
              refine pure_ (i := 31) (N := some 58) (v := ?_) (a' := ?_) #[true, true, true, true, true, true, true, true, true, true, true, true, true, true, true, true, true, true, true, true, true, true, true, true, true, true, true, true, true, true, true, true, false] rfl rfl (by kernel_rfl) (fun _ _ _ h => h) (Or.inl ⟨by rfl, ?_⟩) ?_ ?_
              rotate_left
              · intro w'
                go_simp
                with_reducible rfl
              rotate_left
              · simp only [Act.put, List.setIfInBounds_toArray, List.set_cons_zero, List.set_cons_succ, i64_w, i32_w]
                rfl
              refine pure_ (i := 32) (N := some 59) (v := ?_) (a' := ?_) #[true, true, true, true, true, true, true, true, true, true, true, true, true, true, true, true, true, true, true, true, true, true, true, true, true, true, true, true, true, true, true, true, true] rfl rfl (by kernel_rfl) (fun _ _ _ h => h) (Or.inl ⟨by rfl, ?_⟩) ?_ ?_
              rotate_left
              · intro w'
                go_simp
                with_reducible rfl
              rotate_left
              · simp only [Act.put, List.setIfInBounds_toArray, List.set_cons_zero, List.set_cons_succ, i64_w, i32_w]
                rfl
              refine done_ (by kernel_rfl) ?_
              have hmle : m ≤ n - acc.length := by omega
              clear hwm hmn1 hmn2 hx7 hm1 ha1 hn1 hn2 hd
              have HG2 := Lib.hid (show G = getG f n (xs.drop (k + 1)) (acc ++ List.replicate m b) by
                rw [HGj.out, getG_go _ _ _ _ hlt (by
                  refine decide_eq_false ?_
                  rw [Hd.out]
                  simp only
                  rw [Hbx.out]
                  rintro (h | h | h | h | h)
                  · exact hk0 h
                  · omega
                  · exact hm0 h
                  · exact absurd h (by omega)
                  · exact HL.out h), Hd.out]
                simp only
                rw [Hbx.out])
              have hw1 : IntKind.i64.wrap (m : Int) = (m : Int) := by rw [IntKind.wrap_i64]; omega
              have hw2 : wrap64 (m : Int) = (m : Int) := by unfold wrap64; omega
              obtain ⟨u, hu⟩ := byte_of b hb01.1 hb01.2
              go_wp2_with fail
              clear hw1 hw2
              obtain ⟨W4, hW4⟩ : ∃ W4, W4 = w3.drewN (1 + n4) := ⟨_, rfl⟩
              have BD : Below w3.heap.size w3 W4 := by rw [hW4]; exact pw_below_drewN (Below.refl _ _) _
              rw [← hW4]
              refine (repeat_calls (some ad7) c7 u m W4 (by rw [hu]; exact HT7.out.below BD) hc7 (by omega) (by omega)).mono ?_; rintro e w5 ⟨A5, c5, rfl, hc5, hr5, hb5⟩
              rw [hu] at hr5
              have hl5 := hr5.1
              have HR5 := Lib.hid ((HR3.out.below BD).below hb5)
              have HO5 := Lib.hid (OB.below (OB.below HO3.out BD) hb5)
              have HB5 := Lib.hid (below_step (below_step HB3.out BD) hb5)
              have HRR := Lib.hid hr5
              have hs5 : g + 1 ≤ w5.heap.size := by have := BD.size; have := hb5.size; omega
              clear hr5 hb5 BD
              go_wp2_with (at_builtin; refine print_append_row (w0 := w5) (g + 1) rfl (.tmp 60) (.tmp 64) 22 5 .u8 1 rfl Try.underlying22 infoU8 (by decide) (.slice A6 acc.length c6) acc (List.replicate m b) A5 m c5 rfl rfl HO5.out HRR.out (Below.refl _ _) hs5 (by omega) ?_; intro v6 w6 hown6 hb6 hg6 hat6; have HO6 := Lib.hid hown6; have HB6 := Lib.hid hb6; have HG6 := Lib.hid hg6; clear hown6 hb6 hg6 hat6)
              go_roundg (n - (acc.length + m))
              case measure => omega
              case rel => exact ⟨acc ++ List.replicate m b, xs.drop (k + 1), f, ⟨HO6.out⟩, ⟨HR5.out.far HG6.out (fun e => by have := own_base HO5.out g e.symm; omega) (fun q e hq => by have := own_base HO5.out q e; omega)⟩, ⟨HG2.out⟩, by rw [List.length_append, List.length_replicate]; omega, by rw [List.length_append, List.length_replicate]; omega, by rw [List.length_append, List.length_replicate]; omega, by rw [List.length_drop]; omega, ⟨HB5.out.trans (HB6.out.mono (by omega))⟩⟩
    · have hd := decide_eq_false (show ¬ (acc.length : Int) < (n : Int) by omega)
      have HF := Lib.hid (show G = some (acc, xs) by rw [HGj.out, getG_end _ _ _ _ hlt])
      go_wp2_with fail
      refine (BQ.left_calls g xs false _ HRd.out).mono ?_; rintro e w2 ⟨rfl, ⟨n2, rfl⟩⟩
      go_wp2
      go_ret3
      rw [HF.out]
      exact ⟨⟨_, rfl, own_less (OB.below HO.out (pw_below_drewN (Below.refl _ _) _)) (by omega)⟩, pw_below_drewN HB.out _⟩
end Go.Proofs.Ytijdjpcmndjbcaa.RU

namespace Go.Proofs.Ytijdjpcmndjbcaa.RU
open Go.RowKit Go.Proofs.YtijdjpcmndjbcaaW.PrintWords Go.Proofs.YtijdjpcmndjbcaaW.PrintLast Go.Proofs.YtijdjpcmndjbcaaW.PrintMore Go.Proofs.Ytijdjpcmndjbcaa.CD Go.Proofs.Ytijdjpcmndjbcaa.BR
set_option linter.unusedVariables false
set_option linter.unusedSimpArgs false
abbrev bw (W : World) (t : ByteArray) : World := Lib.bytesWorld W 5 t
theorem bytes_run (t : ByteArray) (W : World) : (convert 9 22 (.string t)).run Try.prog W = .ok (.slice (some ⟨W.heap.size, 0, none⟩) t.size (grownCap W t.size 0 5)) (bw W t) := print_bytes (P := Try.prog) 9 22 5 Try.underlying9 Try.underlying22 Try.underlying5 t W
theorem bw_below (W : World) (t : ByteArray) : Below W.heap.size W (bw W t) := bytes_below (Below.refl _ _) (Nat.le_refl _) 5 t
theorem bw_reads (W : World) (t : ByteArray) (ht : t.size ≤ 9223372036854775807) : ReadsInt (bw W t) .u8 (some ⟨W.heap.size, 0, none⟩) (bytesOf t).length (bytesOf t) := by
  rw [bytesOf_length]; exact bytes_reads W 5 t ht
/-- Get of a string's bytes. -/
theorem rgetstr_calls (s : ByteArray) (n : Nat) (W : World) (hs : s.size ≤ 140737488355328) (hn : n ≤ 65536) :
    Calls Try.prog 8 #[.slice (some ⟨W.heap.size, 0, none⟩) s.size (grownCap W s.size 0 5), .int .i64 (n : Int)] (bw W s) (Gets (getG (n + 1) n (bytesOf s) []) s.size W) := by
  have h := rget_calls (some ⟨W.heap.size, 0, none⟩) (grownCap W s.size 0 5) n (bytesOf s) (bw W s) (bw_reads W s (by omega)) (by rw [bytesOf_length]; exact grownCap_ge _ _ _ _) (BS.bytes_bytesOf s) (by rw [bytesOf_length]; exact hs) hn
  rw [bytesOf_length] at h
  refine h.mono ?_
  rintro e w' ⟨h1, h2⟩
  refine ⟨?_, below_step (bw_below W s) h2⟩
  cases hg : getG (n + 1) n (bytesOf s) [] with
  | none => rw [hg] at h1; exact h1
  | some q =>
    rw [hg] at h1
    obtain ⟨v, he, ho⟩ := h1
    exact ⟨v, he, own_less ho (bw_below W s).size⟩
theorem string_of (l : List Int) (A : Option Addr) (c : Nat) (W : World) (h : ReadsInt W .u8 A l.length l) : (convert 22 9 (.slice A l.length c)).run Try.prog W = .ok (.string (strOfNums l)) W :=
  string_of_reads (c := c) (src := 22) Try.underlying22 Try.underlying5 Try.underlying9 h
set_option maxHeartbeats 400000 in
set_option maxRecDepth 100000 in
theorem gets_calls (s t : ByteArray) (n : Nat) (at_ : Int) (rest : List Int) (W : World) (hs : s.size ≤ 140737488355328) (hn : n ≤ 65536) (hG : getG (n + 1) n (bytesOf s) [] = some (bytesOf t, rest)) (hat : at_ = (s.size : Int) - (rest.length : Int)) :
    Calls Try.prog 12 #[.string s, .int .i64 (n : Int), .string t, .int .i64 at_] W fun e w' => e = .returned (.bool true) ∧ Below W.heap.size W w' := by
  have HG0 := fun W => rgetstr_calls s n W hs hn
  rw [hG] at HG0
  unfold Gets at HG0
  simp only at HG0
  rw [← hat] at HG0
  have HG := Lib.hid HG0
  have kb := bytes_run s
  have eT := BS.beq_same t
  have eS := BS.str_bytesOf t
  clear HG0 hG hat
  go_enter Try.func12, Try.ntmps12
  go_wp2_with fail
  refine (HG.out _).mono ?_; rintro e w1 ⟨⟨v, rfl, ho⟩, hb⟩
  obtain ⟨A1, c1, rfl, hc1, hr1⟩ := OB.slice ho
  have kc := string_of (bytesOf t) A1 c1 w1 hr1
  rw [eS] at kc
  have HB := Lib.hid hb
  clear ho hr1 hb
  go_wp2
  go_ret
  exact ⟨rfl, HB.out⟩
set_option maxHeartbeats 400000 in
set_option maxRecDepth 100000 in
theorem no_calls (s : ByteArray) (n : Nat) (W : World) (hs : s.size ≤ 140737488355328) (hn : n ≤ 65536) (hG : getG (n + 1) n (bytesOf s) [] = none) :
    Calls Try.prog 13 #[.string s, .int .i64 (n : Int), .int .i64 4] W fun e w' => e = .returned (.bool true) ∧ Below W.heap.size W w' := by
  have HG0 := fun W => rgetstr_calls s n W hs hn
  rw [hG] at HG0
  unfold Gets at HG0
  simp only at HG0
  have HG := Lib.hid HG0
  have kb := bytes_run s
  clear HG0 hG
  go_enter Try.func13, Try.ntmps13
  go_wp2_with fail
  refine (HG.out _).mono ?_; rintro e w1 ⟨rfl, hb⟩
  have HB := Lib.hid hb
  clear hb
  go_wp2
  go_ret
  exact ⟨rfl, HB.out⟩
set_option maxHeartbeats 400000 in
set_option maxRecDepth 100000 in
theorem noArg_calls (s : ByteArray) (n : Int) (W : World) (hn : n < 0 ∨ 65536 < n) :
    Calls Try.prog 13 #[.string s, .int .i64 n, .int .i64 2] W fun e w' => e = .returned (.bool true) ∧ Below W.heap.size W w' := by
  have HG := Lib.hid (fun (A : Option Addr) (c k : Nat) (W : World) => rget_arg A c k n W hn)
  have kb := bytes_run s
  clear hn
  go_enter Try.func13, Try.ntmps13
  go_wp2_with fail
  refine (HG.out _ _ _ _).mono ?_; rintro e w1 ⟨rfl, rfl⟩
  go_wp2
  go_ret
  exact ⟨rfl, bw_below _ _⟩
theorem lit_reads (W : World) : ReadsInt (W.alloc (.cells #[.int .u8 0, .int .u8 0, .int .u8 5, .int .u8 0] 5)) .u8 (some ⟨W.heap.size, 0, none⟩) 4 [0, 0, 5, 0] :=
  own_reads' (n := 4) (own_lit W W.heap.size 5 .u8 [0, 0, 5, 0] (Nat.le_refl _) (by decide))
theorem lit_put (W : World) : Calls Try.prog 10 #[.slice (some ⟨W.heap.size, 0, none⟩) 4 4] (W.alloc (.cells #[.int .u8 0, .int .u8 0, .int .u8 5, .int .u8 0] 5)) fun e w' => ∃ v, e = .returned v ∧ OB w' W.heap.size v [2, 0, 1, 5, 1, 0] ∧ Below W.heap.size W w' := by
  refine (rput_calls (some ⟨W.heap.size, 0, none⟩) 4 [0, 0, 5, 0] _ (lit_reads W) (by decide) (by decide) (fun ad e _ => by cases e; simp)).mono ?_
  rintro e w' ⟨v, rfl, ho, hb⟩
  rw [show row [0, 0, 5, 0] = [2, 0, 1, 5, 1, 0] by decide +kernel] at ho
  exact ⟨v, rfl, own_less ho (by simp), below_step (below_alloc (Below.refl _ _) _) hb⟩
theorem lit_count (W : World) : Calls Try.prog 11 #[.slice (some ⟨W.heap.size, 0, none⟩) 4 4] (W.alloc (.cells #[.int .u8 0, .int .u8 0, .int .u8 5, .int .u8 0] 5)) fun e w' => e = .returned (.int .i64 3) ∧ Below W.heap.size W w' := by
  refine (rcount_calls (some ⟨W.heap.size, 0, none⟩) 4 [0, 0, 5, 0] _ (lit_reads W) (by decide) (by decide) (fun ad e _ => by cases e; simp)).mono ?_
  rintro e w' ⟨rfl, hb⟩
  exact ⟨by rw [show (runs [0, 0, 5, 0]).length = 3 by decide +kernel]; rfl, below_step (below_alloc (Below.refl _ _) _) hb⟩
set_option maxHeartbeats 400000 in
set_option maxRecDepth 100000 in
theorem awake_calls (w : World) : Calls Try.prog 7 #[] w fun e w' => e = .returned (.bool true) ∧ Below w.heap.size w w' := by
  have hG := Lib.hid (fun (W : World) => gets_calls { data := #[3, 7] } { data := #[7, 7, 7] } 3 2 [] W (by decide) (by decide) (by decide +kernel) (by decide +kernel))
  have hN := Lib.hid (fun (W : World) => no_calls { data := #[3, 7] } 2 W (by decide) (by decide) (by decide +kernel))
  go_enter Try.func7, Try.ntmps7
  go_wp2_with fail
  refine (lit_put _).mono ?_; rintro e w1 ⟨v1, rfl, ho1, hb1⟩
  have eS : ({ data := #[2, 0, 1, 5, 1, 0] } : ByteArray) = strOfNums [2, 0, 1, 5, 1, 0] := by decide +kernel
  obtain ⟨A1, c1, rfl, hc1, hr1⟩ := OB.slice ho1
  have k1 : (convert 22 9 (.slice A1 6 c1)).run Try.prog w1 = .ok (.string { data := #[2, 0, 1, 5, 1, 0] }) w1 := (string_of [2, 0, 1, 5, 1, 0] A1 c1 w1 hr1).trans (by rw [← eS])
  have HB1 := Lib.hid hb1
  clear ho1 hc1 hr1 hb1 eS
  go_wp2_with fail
  refine (lit_count _).mono ?_; rintro e w2 ⟨rfl, hb2⟩
  have HB2 := Lib.hid (below_step HB1.out hb2)
  clear k1 hb2
  go_wp2_with fail
  refine (hG.out _).mono ?_; rintro e w3 ⟨rfl, hb3⟩
  have HB3 := Lib.hid (below_step HB2.out hb3)
  clear hb3
  go_wp2_with fail
  refine (hN.out _).mono ?_; rintro e w4 ⟨rfl, hb4⟩
  have HB4 := Lib.hid (below_step HB3.out hb4)
  clear hb4
  go_wp2
  go_ret
  exact ⟨rfl, HB4.out⟩
end Go.Proofs.Ytijdjpcmndjbcaa.RU

namespace Go.Proofs.Ytijdjpcmndjbcaa.RU
open Go.RowKit Go.Proofs.YtijdjpcmndjbcaaW.PrintWords Go.Proofs.YtijdjpcmndjbcaaW.PrintLast Go.Proofs.YtijdjpcmndjbcaaW.PrintMore Go.Proofs.Ytijdjpcmndjbcaa.CD Go.Proofs.Ytijdjpcmndjbcaa.BR
set_option linter.unusedVariables false
set_option linter.unusedSimpArgs false
/-- An argument of bytes, opened. -/
theorem open_row {w : World} {A : Option Addr} {len cap : Nat} {zs : List Int}
    (h : (A = none ∧ len = 0 ∧ cap = 0 ∧ zs = []) ∨ ∃ x, A = some x ∧ len ≤ cap ∧ cap ≤ maxLen ∧ zs.length = cap ∧ (∀ i, i < zs.length → w.cell? (x.add i) = some (.int .u8 (zs.getD i 0))) ∧ ∀ n ∈ zs, (Lit.int .u8 n).wf = true) :
    ∃ X : List Int, X.length = len ∧ len ≤ cap ∧ ReadsInt w .u8 A X.length X ∧ Bytes X ∧ (∀ ad, A = some ad → 0 < X.length → ad.block < w.heap.size) := by
  rcases h with ⟨rfl, rfl, rfl, rfl⟩ | ⟨x, rfl, hlc, hm, hz, hcell, hwf⟩
  · exact ⟨[], rfl, Nat.le_refl _, ⟨rfl, by decide, fun h => absurd h (by decide)⟩, Bytes.nil, fun ad e => by cases e⟩
  · have hl : (zs.take len).length = len := by rw [List.length_take]; omega
    have hm' : cap ≤ 9223372036854775807 := hm
    have hr : ReadsInt w .u8 (some x) (zs.take len).length (zs.take len) := by
      refine ⟨rfl, by omega, fun hn => ⟨x, rfl, fun j hj => ?_⟩⟩
      rw [hcell j (by omega), List.getD_eq_getElem?_getD, List.getD_eq_getElem?_getD, List.getElem?_take, if_pos (by omega)]
    refine ⟨zs.take len, hl, hlc, hr, fun y hy => ?_, fun ad e h0 => ?_⟩
    · have := (Lit.wf_int_iff .u8 y).mp (hwf y (List.mem_of_mem_take hy))
      simp only [IntKind.min, IntKind.max] at this
      have h0 : (0 : Int) ≤ y ∧ y ≤ 255 := this
      omega
    · obtain ⟨ad', e', hc⟩ := hr.2.2 h0
      rw [e] at e'
      obtain rfl := Option.some.inj e'
      have := World.block_lt_of_cell? w _ (hc 0 h0)
      rwa [add_block] at this
theorem own_keep {w w1 : World} {base : Nat} {v : Value} {l : List Int} (h : OB w base v l) {row : Option Nat} (hg : w.grownBy w1 row) (hne : ∀ k, v.ownBlock = some k → some k ≠ row) : OB w1 base v l :=
  own_move h fun k hk => hg.block k (own_lt h k hk) (hne k hk)
theorem row_len (l : List Int) : (row l).length ≤ 11 * l.length := by
  have h1 := laid_len l (List.range (runs l).length)
  have e : laid l (List.range (runs l).length) = row l := by unfold laid row; rw [runs_all]
  rw [e, List.length_range] at h1
  have := runs_len l
  omega
set_option maxHeartbeats 1000000 in
set_option maxRecDepth 100000 in
theorem back_law (A B : Option Addr) (c d : Nat) (L M : List Int) (cut : Int) (w : World) (hcut : -9223372036854775808 ≤ cut ∧ cut ≤ 9223372036854775807) (hrl : ReadsInt w .u8 A L.length L) (hrm : ReadsInt w .u8 B M.length M) (hc : L.length ≤ c) (hd : M.length ≤ d) (hbL : Bytes L) (hbM : Bytes M)
    (hblA : ∀ ad, A = some ad → 0 < L.length → ad.block < w.heap.size) (hyL : L.length ≤ 20000) (hyM : M.length ≤ 20000) :
    Calls Try.prog 5 #[.slice A L.length c, .slice B M.length d, .int .i64 cut] w fun e w' => e = .returned (.bool true) ∧ Below w.heap.size w w' := by
  have hP := Lib.hid (rput_calls A c L w hrl hc (by omega) hblA)
  have HL := Lib.hid hrl
  have HM := Lib.hid hrm
  have hRl := row_len L
  obtain ⟨R, hR⟩ : ∃ R, row L = R := ⟨_, rfl⟩
  have hRb : Bytes R := by rw [← hR]; exact row_bytes L hbL (by omega)
  have hG := getG_row L M (by omega)
  have hK := fun cc h => getG_cut L cc (by omega) (by rw [hR]; exact hRb) h
  rw [hR] at hP hRl hG hK
  have HRb := Lib.hid hRb
  have HMb := Lib.hid hbM
  have HG := Lib.hid hG
  have HK := Lib.hid hK
  have hgt1 := decide_eq_false (show ¬ (20000 : Int) < (L.length : Int) by omega)
  have hgt2 := decide_eq_false (show ¬ (20000 : Int) < (M.length : Int) by omega)
  clear hrl hrm hbL hbM hR hRb hG hK
  go_enter Try.func5, Try.ntmps5
  go_wp2_with fail
  refine hP.out.mono ?_; rintro e w1 ⟨v1, rfl, ho1, hb1⟩
  obtain ⟨A1, c1, rfl, hc1, hr1⟩ := OB.slice ho1
  have HO1 := Lib.hid ho1
  have HB1 := Lib.hid hb1
  have HR1 := Lib.hid hr1
  clear ho1 hb1 hr1
  have hBs := HB1.out.size
  go_wp2_with (first
    | (at_builtin; refine print_append_row (w0 := w) w.heap.size rfl (.tmp 26) (.tmp 27) 22 5 .u8 1 rfl Try.underlying22 infoU8 (by decide) (.slice none 0 0) [] R A1 R.length c1 rfl rfl (own_nil _ _ _ _) HR1.out HB1.out hBs (by simp; omega) ?_; intro v2 w2 hown2 hb2 hg2 hat2; rw [List.nil_append] at hown2; have HO2 := Lib.hid hown2; have HB2 := Lib.hid hb2; have HG2 := Lib.hid hg2; have HA2 := Lib.hid hat2; clear hown2 hb2 hg2 hat2; obtain ⟨A2, c2, rfl, hc2, hr2⟩ := OB.slice HO2.out; clear hr2; have hBs2 := HB2.out.size)
    | (at_builtin; refine print_append_row (w0 := w) w.heap.size rfl (.tmp 29) (.tmp 30) 22 5 .u8 1 rfl Try.underlying22 infoU8 (by decide) (.slice A2 R.length c2) R M B M.length d rfl rfl HO2.out (HM.out.below HB2.out) HB2.out hBs2 (by omega) ?_; intro v3 w3 hown3 hb3 hg3 hat3; have HO3 := Lib.hid hown3; have HB3 := Lib.hid hb3; have HG3 := Lib.hid hg3; clear hown3 hb3 hg3 hat3; obtain ⟨A3, c3, rfl, hc3, hr3⟩ := OB.slice HO3.out; have HR3 := Lib.hid hr3; clear hr3))
  have hg := rget_calls A3 c3 L.length (R ++ M) w3 HR3.out hc3 (HRb.out.append HMb.out) (by rw [List.length_append]; omega) (by omega)
  rw [HG.out, List.length_append] at hg
  refine hg.mono ?_; clear hg
  rintro e w4 ⟨⟨v4, rfl, ho4⟩, hb4⟩
  rw [show ((R.length + M.length : Nat) : Int) - (M.length : Int) = (R.length : Int) by omega]
  obtain ⟨A4, c4, rfl, hc4, hr4⟩ := OB.slice ho4
  have HB4 := Lib.hid (below_step HB3.out hb4)
  have k1 := string_of L A4 c4 w4 hr4
  have k2 := string_of L A c w4 (HL.out.below HB4.out)
  have eT := BS.beq_same (strOfNums L)
  have HO4 : Hid (OB w4 w.heap.size (.slice A1 R.length c1) R) := Lib.hid (by
    have h2 : OB w2 w.heap.size (.slice A1 R.length c1) R := own_keep HO1.out HG2.out (fun k _ e => by cases e)
    have h3 : OB w3 w.heap.size (.slice A1 R.length c1) R := own_keep h2 HG3.out (fun k hk e => by
      have hlt := own_lt HO1.out k hk
      rcases HA2.out with h | ⟨b, h, hb⟩
      · rw [← e] at h; cases h
      · rw [← e] at h; injection h with h; omega)
    exact OB.below h3 hb4)
  clear ho4 hr4 hb4
  by_cases hc0 : 0 ≤ cut ∧ cut < (R.length : Int)
  · obtain ⟨hc01, hc02⟩ := hc0
    obtain ⟨cc, rfl⟩ := Int.eq_ofNat_of_zero_le hc01
    have hd0 := decide_eq_true hc01
    have hd1 := decide_eq_true hc02
    have hto := cut_to (P := Try.prog) 22 5 .i64 Try.underlying22 (info_parts infoU8).choose_spec.1 A1 R.length c1 (cc : Int) (by omega) (by omega) hc1
    simp only [Int.toNat_natCast] at hto
    have HT : Hid (ReadsInt w4 .u8 A1 (R.take cc).length (R.take cc)) := Lib.hid (by
      have e : (R.take cc).length = cc := by rw [List.length_take]; omega
      rw [e]; exact (OB.reads HO4.out).take_ cc (by omega))
    have eTl : (R.take cc).length = cc := by rw [List.length_take]; omega
    go_wp2_with fail
    have hg := rget_calls A1 c1 L.length (R.take cc) w4 HT.out (by omega) (HRb.out.take cc) (by omega) (by omega)
    rw [HK.out cc (by omega), eTl] at hg
    refine hg.mono ?_; clear hg
    rintro e w5 ⟨rfl, hb5⟩
    have HB5 := Lib.hid (below_step HB4.out hb5)
    clear hb5
    go_wp2_with fail
    refine (awake_calls _).mono ?_; rintro e w6 ⟨rfl, hb6⟩
    have HB6 := Lib.hid (below_step HB5.out hb6)
    clear hb6
    go_wp2
    go_ret
    exact ⟨rfl, HB6.out⟩
  · rcases (by omega : cut < 0 ∨ (0 ≤ cut ∧ (R.length : Int) ≤ cut)) with h | ⟨h1, h2⟩
    · have hd0 := decide_eq_false (show ¬ 0 ≤ cut by omega)
      clear h hc0
      go_wp2_with fail
      refine (awake_calls _).mono ?_; rintro e w6 ⟨rfl, hb6⟩
      have HB6 := Lib.hid (below_step HB4.out hb6)
      clear hb6
      go_wp2
      go_ret
      exact ⟨rfl, HB6.out⟩
    · have hd0 := decide_eq_true h1
      have hd1 := decide_eq_false (show ¬ cut < (R.length : Int) by omega)
      clear h1 h2 hc0
      go_wp2_with fail
      refine (awake_calls _).mono ?_; rintro e w6 ⟨rfl, hb6⟩
      have HB6 := Lib.hid (below_step HB4.out hb6)
      clear hb6
      go_wp2
      go_ret
      exact ⟨rfl, HB6.out⟩
/-- Rows or bytes that are too long: no more than awake is asked. -/
theorem back_long (A B : Option Addr) (k m c d : Nat) (cut : Int) (w : World) (h : 20000 < k ∨ 20000 < m) :
    Calls Try.prog 5 #[.slice A k c, .slice B m d, .int .i64 cut] w fun e w' => e = .returned (.bool true) ∧ Below w.heap.size w w' := by
  rcases (by omega : 20000 < k ∨ (k ≤ 20000 ∧ 20000 < m)) with h | ⟨h1, h2⟩
  · have hgt1 := decide_eq_true (show (20000 : Int) < (k : Int) by omega)
    go_enter Try.func5, Try.ntmps5
    go_wp2_with fail
    refine (awake_calls _).mono ?_; rintro e w6 ⟨rfl, hb6⟩
    go_wp2
    go_ret
    exact ⟨rfl, hb6⟩
  · have hgt1 := decide_eq_false (show ¬ (20000 : Int) < (k : Int) by omega)
    have hgt2 := decide_eq_true (show (20000 : Int) < (m : Int) by omega)
    go_enter Try.func5, Try.ntmps5
    go_wp2_with fail
    refine (awake_calls _).mono ?_; rintro e w6 ⟨rfl, hb6⟩
    go_wp2
    go_ret
    exact ⟨rfl, hb6⟩
theorem backWalk (A : Option Addr) (n c : Nat) (zs : List Int) (B : Option Addr) (m d : Nat) (ys : List Int) (cut : Int) (w : World)
    (h0 : (A = none ∧ n = 0 ∧ c = 0 ∧ zs = []) ∨ ∃ x, A = some x ∧ n ≤ c ∧ c ≤ maxLen ∧ zs.length = c ∧ (∀ i, i < zs.length → w.cell? (x.add i) = some (.int .u8 (zs.getD i 0))) ∧ ∀ n ∈ zs, (Lit.int .u8 n).wf = true) (y0 : n * 1 ≤ 140737488351232)
    (h1 : (B = none ∧ m = 0 ∧ d = 0 ∧ ys = []) ∨ ∃ x, B = some x ∧ m ≤ d ∧ d ≤ maxLen ∧ ys.length = d ∧ (∀ i, i < ys.length → w.cell? (x.add i) = some (.int .u8 (ys.getD i 0))) ∧ ∀ n ∈ ys, (Lit.int .u8 n).wf = true) (y1 : m * 1 ≤ 140737488351232)
    (h2 : (Lit.int .i64 cut).wf = true) :
    Calls Try.prog 5 #[.slice A n c, .slice B m d, .int .i64 cut] w fun e w' => e = .returned (.bool true) ∧ Below w.heap.size w w' := by
  obtain ⟨L, rfl, hc, hrL, hbL, hblL⟩ := open_row h0
  obtain ⟨M, rfl, hd, hrM, hbM, hblM⟩ := open_row h1
  rcases (by omega : (20000 < L.length ∨ 20000 < M.length) ∨ (L.length ≤ 20000 ∧ M.length ≤ 20000)) with h | ⟨h, h'⟩
  · exact back_long A B _ _ c d cut w h
  · exact back_law A B c d L M cut w ((Lit.wf_int_iff .i64 cut).mp h2) hrL hrM hc hd hbL hbM hblL h h'
end Go.Proofs.Ytijdjpcmndjbcaa.RU

namespace Go.Proofs.Ytijdjpcmndjbcaa.CD
set_option linter.unusedVariables false
set_option linter.unusedSimpArgs false
def val7 : List Int → Nat
  | [] => 0
  | c :: l => (c % 128).toNat + 128 * val7 l
/-- The groups of a number: all but the last go on. -/
def Goes (l : List Int) (k : Nat) : Prop := 1 ≤ k ∧ k ≤ l.length ∧ (∀ j, j + 1 < k → 128 ≤ l.getD j 0) ∧ l.getD (k - 1) 0 < 128
theorem Goes.uniq {l : List Int} {a b : Nat} (h : Goes l a) (g : Goes l b) : a = b := by
  obtain ⟨h1, h2, h3, h4⟩ := h
  obtain ⟨g1, g2, g3, g4⟩ := g
  rcases Nat.lt_trichotomy a b with hlt | he | hgt
  · have := g3 (a - 1) (by omega); omega
  · exact he
  · have := h3 (b - 1) (by omega); omega
theorem numF_goes : ∀ (k n : Nat) (rest : List Int), n < 128 ^ (k + 1) → Goes (numF k n ++ rest) (numF k n).length
  | 0, n, rest, h => by
    have : n < 128 := by simpa using h
    refine ⟨by simp [numF], by simp [numF], fun j hj => by simp [numF] at hj, ?_⟩
    simp [numF]; omega
  | k + 1, n, rest, h => by
    by_cases hs : n < 128
    · rw [numF_small _ _ hs]
      refine ⟨by simp, by simp, fun j hj => by simp at hj, ?_⟩
      simp; omega
    · rw [numF_big k n (by omega)]
      obtain ⟨i1, i2, i3, i4⟩ := numF_goes k (n / 128) rest (by rw [Nat.pow_succ] at h; omega)
      refine ⟨by simp, by simp, fun j hj => ?_, ?_⟩
      · cases j with
        | zero => simp; omega
        | succ j => simp only [List.cons_append, List.getD_cons_succ]; exact i3 j (by simp at hj; omega)
      · simp only [List.length_cons, List.cons_append, Nat.add_sub_cancel]
        obtain ⟨q, hq⟩ : ∃ q, (numF k (n / 128)).length = q + 1 := ⟨(numF k (n / 128)).length - 1, by omega⟩
        rw [hq] at i4 ⊢
        simp only [List.getD_cons_succ]
        exact i4
theorem val7_numF : ∀ (k n : Nat), n < 128 ^ (k + 1) → val7 (numF k n) = n
  | 0, n, h => by
    have : n < 128 := by simpa using h
    simp [numF, val7]; omega
  | k + 1, n, h => by
    by_cases hs : n < 128
    · rw [numF_small _ _ hs]; simp [val7]; omega
    · rw [numF_big k n (by omega), val7, val7_numF k (n / 128) (by rw [Nat.pow_succ] at h; omega)]
      omega
theorem num_goes (n : Nat) (rest : List Int) (h : n < 18446744073709551616) : Goes (num n ++ rest) (num n).length := numF_goes 9 n rest (by omega)
theorem val7_num (n : Nat) (h : n < 18446744073709551616) : val7 (num n) = n := val7_numF 9 n (by omega)
theorem val7_take : ∀ (l : List Int) (i : Nat), i < l.length → val7 (l.take (i + 1)) = val7 (l.take i) + (l.getD i 0 % 128).toNat * 128 ^ i
  | c :: l, 0, _ => by simp [val7]
  | c :: l, i + 1, h => by
    simp only [List.take_succ_cons, val7, List.getD_cons_succ]
    rw [val7_take l i (by simpa using h), Nat.pow_succ]
    generalize (l.getD i 0 % 128).toNat = d
    generalize 128 ^ i = p
    have : d * (p * 128) = 128 * (d * p) := by rw [← Nat.mul_assoc, Nat.mul_comm]
    omega
theorem dec_goes_not (l : List Int) (hb : Bytes l) (h : ∀ k, k ≤ 10 → ¬ Goes l k) : dec l = (0, 0) := by
  cases hd : dec l with
  | mk m k =>
    by_cases hk : k = 0
    · subst hk; rw [dec_none l m hd]
    · obtain ⟨hm, hkl, hl, _, _, hk10⟩ := dec_back l hb m k hd hk
      have hg := num_goes m (l.drop k) hm
      rw [← hl, ← hkl] at hg
      exact absurd hg (h k hk10)
theorem dec_goes (l : List Int) (hb : Bytes l) (k : Nat) (hg : Goes l k) (n : Nat) (hn : n = val7 (l.take k) % 18446744073709551616) :
    dec l = if l.take (num n).length = num n then (n, k) else (0, 0) := by
  have hn64 : n < 18446744073709551616 := by rw [hn]; exact Nat.mod_lt _ (by decide)
  split
  · rename_i hp
    have hl : l = num n ++ l.drop (num n).length := by
      have := List.take_append_drop (num n).length l
      rw [hp] at this; exact this.symm
    have hg2 := num_goes n (l.drop (num n).length) hn64
    rw [← hl] at hg2
    rw [hg.uniq hg2]
    have hd := dec_num n (l.drop (num n).length) hn64
    rw [← hl] at hd
    exact hd
  · rename_i hp
    cases hd : dec l with
    | mk m k' =>
      by_cases hk : k' = 0
      · subst hk; rw [dec_none l m hd]
      · exfalso
        obtain ⟨hm, hkl, hl, _, _, _⟩ := dec_back l hb m k' hd hk
        have hg2 := num_goes m (l.drop k') hm
        rw [← hl] at hg2
        have e := hg.uniq hg2
        have ht : l.take k = num m := by rw [e, hl]; exact List.take_left
        apply hp
        have hnm : n = m := by rw [hn, ht, val7_num m hm]; exact Nat.mod_eq_of_lt hm
        rw [hnm, ← e]; exact ht
end Go.Proofs.Ytijdjpcmndjbcaa.CD

namespace Go.Proofs.Ytijdjpcmndjbcaa.CD
open Go.RowKit Go.Proofs.YtijdjpcmndjbcaaW.PrintWords Go.Proofs.YtijdjpcmndjbcaaW.PrintLast Go.Proofs.YtijdjpcmndjbcaaW.PrintMore
set_option linter.unusedVariables false
set_option linter.unusedSimpArgs false
theorem rdn (l : List Int) (i : Nat) : rd l (i : Int) = l.getD i 0 := by simp [rd]
theorem same_l0 (b w : List Int) (hl : w.length ≤ b.length) (hw : w.length ≤ 1000000) : ∀ (d f i : Nat), d = w.length - i → d < f → PRunsGet.bedrockref04_same.l0 f b w (i : Int) = some (decide ((b.take w.length).drop i = w.drop i))
  | 0, f, i, hd, hf => by
    obtain ⟨f, rfl⟩ : ∃ g, f = g + 1 := ⟨f - 1, by omega⟩
    simp only [PRunsGet.bedrockref04_same.l0]
    rw [if_neg (by omega), List.drop_of_length_le (by rw [List.length_take]; omega), List.drop_of_length_le (by omega)]
    simp
  | d + 1, f, i, hd, hf => by
    obtain ⟨f, rfl⟩ : ∃ g, f = g + 1 := ⟨f - 1, by omega⟩
    simp only [PRunsGet.bedrockref04_same.l0]
    have hi : i < w.length := by omega
    rw [if_pos (by omega), if_pos (by omega), if_pos (by omega), rdn, rdn]
    have e1 : (b.take w.length).drop i = b.getD i 0 :: (b.take w.length).drop (i + 1) := by
      rw [List.drop_eq_getElem_cons (by rw [List.length_take]; omega), List.getElem_take, List.getD_eq_getElem?_getD, List.getElem?_eq_getElem (by omega)]; rfl
    have e2 : w.drop i = w.getD i 0 :: w.drop (i + 1) := by
      rw [List.drop_eq_getElem_cons hi, List.getD_eq_getElem?_getD, List.getElem?_eq_getElem hi]; rfl
    rw [e1, e2]
    have hw1 : wrap64 ((i : Int) + 1) = ((i + 1 : Nat) : Int) := by unfold wrap64; omega
    by_cases he : b.getD i 0 = w.getD i 0
    · rw [if_pos he, hw1, same_l0 b w hl hw d f (i + 1) (by omega) (by omega), he]
      simp
    · rw [if_neg he, decide_eq_false (fun e => he (by injection e))]
theorem same_f (b w : List Int) (hw : w.length ≤ 1000000) (f : Nat) (hf : w.length < f) : PRunsGet.bedrockref04_same.f f b w = some (decide (b.take w.length = w)) := by
  unfold PRunsGet.bedrockref04_same.f
  by_cases h : b.length < w.length
  · rw [if_pos (by omega)]
    have : ¬ (b.take w.length = w) := fun e => by have := congrArg List.length e; rw [List.length_take] at this; omega
    simp [this]
  · rw [if_neg (by omega)]
    have := same_l0 b w (by omega) hw w.length f 0 (by omega) hf
    simpa using this
theorem num_l0F : ∀ (k j n : Nat) (x : List Int), n < 128 ^ (k + 1) → n < 18446744073709551616 → x.length + k < 140737488355328 → k < j → PRunsGet.bedrockref04_Num.l0 j (n : Int) x = some (x ++ numF k n)
  | 0, j, n, x, hn, h64, hx, hj => by
    obtain ⟨j, rfl⟩ : ∃ m, j = m + 1 := ⟨j - 1, by omega⟩
    simp only [PRunsGet.bedrockref04_Num.l0, numF]
    rw [if_neg (by omega), if_pos (by omega), show ((n : Int) % 256) = (n : Int) by omega]
  | k + 1, j, n, x, hn, h64, hx, hj => by
    obtain ⟨j, rfl⟩ : ∃ m, j = m + 1 := ⟨j - 1, by omega⟩
    simp only [PRunsGet.bedrockref04_Num.l0]
    by_cases h : n < 128
    · rw [numF_small _ _ h, if_neg (by omega), if_pos (by omega), show ((n : Int) % 256) = (n : Int) by omega]
    · have e1 : IntKind.u64.wrap (Int.tdiv (n : Int) 128) = ((n / 128 : Nat) : Int) := by
        rw [Int.tdiv_eq_ediv_of_nonneg (by omega), CF.wu64]; omega
      have e2 : (IntKind.u64.wrap ((Int.tmod (n : Int) 128) + 128)) % 256 = ((n % 128 + 128 : Nat) : Int) := by
        rw [Int.tmod_eq_emod_of_nonneg (by omega), CF.wu64]; omega
      rw [numF_big k n (by omega), if_pos (by omega), if_pos (by omega), e1, e2]
      clear e1 e2
      rw [num_l0F k j (n / 128) _ (by rw [Nat.pow_succ] at hn; omega) (by omega) (by simp; omega) (by omega)]
      simp
theorem num_fF (n f : Nat) (hn : n < 18446744073709551616) (hf : 12 ≤ f) : PRunsGet.bedrockref04_Num.f f (n : Int) = some (num n) := by
  have h := num_l0F 9 f n [] (by omega) hn (by simp) (by omega)
  unfold PRunsGet.bedrockref04_Num.f
  exact h
/-- What First does behind its first last group. -/
def told (l : List Int) (k n : Nat) : Int × Int := if l.take (num n).length = num n then ((n : Int), (k : Int)) else (0, 0)
theorem first_l1 (l : List Int) (hb : Bytes l) (k F : Nat) (hF : 20 ≤ F) : ∀ (i x : Nat), i ≤ l.length → i ≤ 1000000 → x < 18446744073709551616 →
    PRunsGet.bedrockref04_First.l1 (i + 1 + F) l (k : Int) (x : Int) ((i : Int) - 1) = some (told l k ((x * 128 ^ i + val7 (l.take i)) % 18446744073709551616))
  | 0, x, hi, h6, hx => by
    rw [show 0 + 1 + F = F + 1 by omega]
    simp only [PRunsGet.bedrockref04_First.l1]
    rw [if_neg (by omega), num_fF x F hx (by omega)]
    simp only [Option.bind_some]
    rw [same_f l (num x) (by have := num_le x; omega) F (by have := num_le x; omega)]
    simp only [Option.bind_some, decide_eq_true_eq, List.take_zero, val7, Nat.pow_zero, Nat.mul_one, Nat.add_zero]
    rw [Nat.mod_eq_of_lt hx]
    unfold told
    split <;> rfl
  | i + 1, x, hi, h6, hx => by
    rw [show i + 1 + 1 + F = (i + 1 + F) + 1 by omega]
    simp only [PRunsGet.bedrockref04_First.l1]
    have e1 : (((i + 1 : Nat) : Int) - 1) = (i : Int) := by omega
    rw [e1, if_pos (by omega), if_pos (by omega), if_pos (by omega), rdn]
    have hc : 0 ≤ l.getD i 0 ∧ l.getD i 0 < 256 := by
      rw [List.getD_eq_getElem?_getD, List.getElem?_eq_getElem (by omega)]
      exact hb _ (List.getElem_mem (by omega))
    have hv := val7_take l i (by omega)
    obtain ⟨c, hce⟩ : ∃ c : Nat, l.getD i 0 = (c : Int) := ⟨(l.getD i 0).toNat, by omega⟩
    rw [hce] at hc hv ⊢
    have e2 : IntKind.u64.wrap (IntKind.u64.wrap (128 * (x : Int)) + IntKind.u64.wrap (Int.tmod (c : Int) 128)) = (((128 * x + c % 128) % 18446744073709551616 : Nat) : Int) := by
      rw [Int.tmod_eq_emod_of_nonneg (by omega), CF.wu64, CF.wu64, CF.wu64]; omega
    have e3 : wrap64 ((i : Int) - 1) = (i : Int) - 1 := by unfold wrap64; omega
    rw [e2, e3, first_l1 l hb k F hF i _ (by omega) (by omega) (Nat.mod_lt _ (by decide))]
    congr 2
    rw [hv]
    have e4 : (((c : Int) % 128).toNat) = c % 128 := by omega
    rw [e4, Nat.pow_succ]
    generalize val7 (l.take i) = v
    generalize 128 ^ i = p
    rw [Nat.add_mod, Nat.mod_mul_mod, ← Nat.add_mod]
    congr 1
    rw [Nat.add_mul, Nat.mul_comm 128 x, Nat.mul_assoc, Nat.mul_comm 128 p]
    omega
theorem first_l0 (l : List Int) (hb : Bytes l) (hl : l.length ≤ 140737488355328) : ∀ (d k : Nat), k + d = 11 → 1 ≤ k → (∀ j, j + 1 < k → 128 ≤ l.getD j 0) →
    PRunsGet.bedrockref04_First.l0 (2 * d + 50) l (k : Int) = some (((dec l).1 : Int), ((dec l).2 : Int))
  | d, k, hd, hk, hall => by
    have hfall : ∀ (hk' : ¬ (k ≤ 10 ∧ k ≤ l.length)), dec l = (0, 0) := fun hk' => dec_goes_not l hb fun q hq hg => by
      obtain ⟨g1, g2, g3, g4⟩ := hg
      have := hall (q - 1) (by omega)
      omega
    rw [show 2 * d + 50 = (2 * d + 48 + 1) + 1 by omega]
    simp only [PRunsGet.bedrockref04_First.l0]
    by_cases h10 : k ≤ 10
    · rw [if_pos (by omega)]
      by_cases hlen : k ≤ l.length
      · rw [decide_eq_true (by omega)]
        simp only [PRunsGet.bedrockref04_First.j1, if_true]
        have e1 : wrap64 ((k : Int) - 1) = ((k - 1 : Nat) : Int) := by unfold wrap64; omega
        have e2 : wrap64 ((k : Int) + 1) = ((k + 1 : Nat) : Int) := by unfold wrap64; omega
        rw [e1, e2, if_pos (by omega), if_pos (by omega), rdn]
        by_cases hc : 128 ≤ l.getD (k - 1) 0
        · rw [if_pos (by omega)]
          obtain ⟨d, rfl⟩ : ∃ q, d = q + 1 := ⟨d - 1, by omega⟩
          rw [show 2 * (d + 1) + 48 = 2 * d + 50 by omega]
          refine first_l0 l hb hl d (k + 1) (by omega) (by omega) fun j hj => ?_
          rcases Nat.lt_or_ge (j + 1) k with h | h
          · exact hall j h
          · obtain rfl : j = k - 1 := by omega
            exact hc
        · rw [if_neg (by omega)]
          have hg : Goes l k := ⟨hk, hlen, hall, by omega⟩
          have h1 := first_l1 l hb k (2 * d + 48 - k - 1) (by omega) k 0 hlen (by omega) (by decide)
          rw [show k + 1 + (2 * d + 48 - k - 1) = 2 * d + 48 by omega] at h1
          have e3 : ((k - 1 : Nat) : Int) = (k : Int) - 1 := by omega
          rw [e3]
          have h1' : PRunsGet.bedrockref04_First.l1 (2 * d + 48) l (k : Int) 0 ((k : Int) - 1) = _ := h1
          rw [h1', Nat.zero_mul, Nat.zero_add, dec_goes l hb k hg _ rfl]
          unfold told
          split <;> rfl
      · rw [decide_eq_false (by omega)]
        simp only [PRunsGet.bedrockref04_First.j1, Bool.false_eq_true, if_false]
        rw [hfall (by omega)]; rfl
    · rw [if_neg (by omega)]
      simp only [PRunsGet.bedrockref04_First.j1, Bool.false_eq_true, if_false]
      rw [hfall (by omega)]; rfl
  termination_by d => d
theorem first_f (l : List Int) (hb : Bytes l) (hl : l.length ≤ 140737488355328) : PRunsGet.bedrockref04_First.f 70 l = some (((dec l).1 : Int), ((dec l).2 : Int)) :=
  first_l0 l hb hl 10 1 (by omega) (by omega) fun j hj => by omega
end Go.Proofs.Ytijdjpcmndjbcaa.CD

namespace Go.Proofs.Ytijdjpcmndjbcaa.RU
open Go.RowKit Go.Proofs.YtijdjpcmndjbcaaW.PrintWords Go.Proofs.YtijdjpcmndjbcaaW.PrintLast Go.Proofs.YtijdjpcmndjbcaaW.PrintMore Go.Proofs.Ytijdjpcmndjbcaa.CD Go.Proofs.Ytijdjpcmndjbcaa.BR
set_option linter.unusedVariables false
set_option linter.unusedSimpArgs false
/-- What the document's Get answers. -/
def ansR (o : Option (List Int × List Int)) (len : Nat) : List Int × Int × Int :=
  match o with
  | none => ([], 0, 4)
  | some (l, rest) => (l, (len : Int) - (rest.length : Int), 0)
theorem first_more (X : List Int) (hb : Bytes X) (hl : X.length ≤ 140737488355328) : ∀ j, PRunsGet.bedrockref04_First.f (70 + j) X = some (((dec X).1 : Int), ((dec X).2 : Int))
  | 0 => first_f X hb hl
  | j + 1 => PRunsGet.bedrockref04_First.mono X (70 + j) _ (first_more X hb hl j)
theorem first_at (X : List Int) (hb : Bytes X) (hl : X.length ≤ 140737488355328) (G : Nat) (hG : 70 ≤ G) : PRunsGet.bedrockref04_First.f G X = some (((dec X).1 : Int), ((dec X).2 : Int)) := by
  obtain ⟨j, rfl⟩ : ∃ j, G = 70 + j := ⟨G - 70, by omega⟩
  exact first_more X hb hl j
theorem w64n (n : Nat) (h : n < 9223372036854775808) : wrap64 (n : Int) = (n : Int) := by unfold wrap64; omega
theorem ref_l1 (X0 : List Int) (n at_ k m : Nat) (b : Int) (hX : X0.length ≤ 1000000000) (hat : at_ + k < X0.length) (hb : X0.getD (at_ + k) 0 = b) (hm : m ≤ 1000000) (F : Nat) : ∀ (d i : Nat) (acc : List Int), i + d = m → acc.length + d ≤ 100000000 →
    PRunsGet.bedrockref05_Get.l1 (F + 1 + d) X0 (n : Int) acc (at_ : Int) (m : Int) (k : Int) (i : Int) = PRunsGet.bedrockref05_Get.l1 (F + 1) X0 (n : Int) (acc ++ List.replicate d b) (at_ : Int) (m : Int) (k : Int) (m : Int)
  | 0, i, acc, hi, hl => by
    obtain rfl : i = m := by omega
    simp
  | d + 1, i, acc, hi, hl => by
    rw [show F + 1 + (d + 1) = (F + 1 + d) + 1 by omega]
    have e1 : wrap64 ((at_ : Int) + (k : Int)) = ((at_ + k : Nat) : Int) := by rw [← Int.natCast_add]; exact w64n _ (by omega)
    have e2 : IntKind.u64.wrap ((i : Int) + 1) = ((i + 1 : Nat) : Int) := CF.wu64_id _ (by omega) (by omega)
    rw [PRunsGet.bedrockref05_Get.l1]
    rw [if_pos (by omega), e1, e2, if_pos (by omega), if_pos (by omega), if_pos (by omega), rdn, hb]
    rw [ref_l1 X0 n at_ k m b hX hat hb hm F d (i + 1) (acc ++ [b]) (by omega) (by rw [List.length_append, List.length_singleton]; omega)]
    rw [List.append_assoc, List.replicate_succ]
    rfl
theorem getD_app_left (a b : List Int) (i : Nat) (h : i < a.length) : (a ++ b).getD i 0 = a.getD i 0 := by
  rw [List.getD_eq_getElem?_getD, List.getD_eq_getElem?_getD, List.getElem?_append_left h]
theorem getD_rep (a : List Int) (m : Nat) (b : Int) (i : Nat) (h : a.length ≤ i) (h2 : i < a.length + m) : (a ++ List.replicate m b).getD i 0 = b := by
  rw [List.getD_eq_getElem?_getD, List.getElem?_append_right h, List.getElem?_replicate, if_pos (by omega)]; rfl
theorem last_getD (l : List Int) (h : 0 < l.length) : l.getLast? = some (l.getD (l.length - 1) 0) := by
  rw [List.getLast?_eq_getElem?, List.getD_eq_getElem?_getD, List.getElem?_eq_getElem (by omega)]; rfl
theorem ref_l0 (X0 : List Int) (n : Nat) (hX : X0.length ≤ 1000000) (hb : Bytes X0) (hn : n ≤ 65536) : ∀ (d f at_ : Nat) (acc : List Int) (F : Nat), n - acc.length ≤ d → d < f → acc.length ≤ n → at_ ≤ X0.length → 100000 * (d + 1) + 100 ≤ F →
    PRunsGet.bedrockref05_Get.l0 F X0 (n : Int) acc (at_ : Int) = some (ansR (getG f n (X0.drop at_) acc) X0.length)
  | d, f, at_, acc, F, hd, hf, hal, hat, hFd => by
    obtain ⟨f, rfl⟩ : ∃ q, f = q + 1 := ⟨f - 1, by omega⟩
    obtain ⟨F, rfl⟩ : ∃ q, F = q + 1 := ⟨F - 1, by omega⟩
    rw [PRunsGet.bedrockref05_Get.l0]
    by_cases hlt : acc.length < n
    · obtain ⟨d, rfl⟩ : ∃ q, d = q + 1 := ⟨d - 1, by omega⟩
      rw [if_pos (by omega), if_pos (by omega), if_pos (by omega), show (at_ : Int).toNat = at_ by omega]
      obtain ⟨X, hXd⟩ : ∃ X, X0.drop at_ = X := ⟨_, rfl⟩
      have hXl : X.length = X0.length - at_ := by rw [← hXd, List.length_drop]
      have hXb : Bytes X := by rw [← hXd]; exact hb.drop _
      rw [hXd]
      rw [first_at X hXb (by omega) F (by omega), Option.bind_some]
      obtain ⟨⟨m, k⟩, hdec⟩ : ∃ q, dec X = q := ⟨_, rfl⟩
      rw [hdec]
      simp only
      have hwn : IntKind.u64.wrap (n : Int) = (n : Int) := CF.wu64_id _ (by omega) (by omega)
      rw [hwn]
      clear hwn
      have fin : ∀ q : Bool, (k = 0 ∨ X.length ≤ k ∨ n < m → q = true) → (¬ (k = 0 ∨ X.length ≤ k ∨ n < m) → q = false) →
          PRunsGet.bedrockref05_Get.j2 F X0 (n : Int) acc (at_ : Int) (m : Int) (k : Int) q = some (ansR (getG (f + 1) n X acc) X0.length) := by
        intro q hq1 hq2
        obtain ⟨F1, rfl⟩ : ∃ q, F = q + 1 := ⟨F - 1, by omega⟩
        rw [PRunsGet.bedrockref05_Get.j2]
        by_cases hbad : k = 0 ∨ X.length ≤ k ∨ n < m
        · rw [if_pos (hq1 hbad), getG_bad _ _ _ _ hlt (by
            refine decide_eq_true ?_
            rw [hdec]
            simp only
            rcases hbad with h | h | h
            · exact .inl h
            · exact .inr (.inl h)
            · exact .inr (.inr (.inr (.inl (by omega)))))]
          rfl
        · have hq := hq2 hbad
          subst hq
          rw [if_neg (by decide)]
          have hk0 : k ≠ 0 := fun e => hbad (.inl e)
          have hk1 : k < X.length := Nat.lt_of_not_le fun e => hbad (.inr (.inl e))
          have hmn : m ≤ n := Nat.le_of_not_lt fun e => hbad (.inr (.inr e))
          have hbx : X0.getD (at_ + k) 0 = X.getD k 0 := by rw [← hXd, List.getD_eq_getElem?_getD, List.getD_eq_getElem?_getD, List.getElem?_drop]
          obtain ⟨b, hbe⟩ : ∃ b, X.getD k 0 = b := ⟨_, rfl⟩
          rw [hbe] at hbx
          obtain ⟨F2, hF2⟩ : ∃ F2, F1 = F2 + 1 + m := ⟨F1 - 1 - m, by omega⟩
          have h1 := ref_l1 X0 n at_ k m b (by omega) (by omega) hbx (by omega) F2 m 0 acc (by omega) (by omega)
          rw [← hF2, Int.natCast_zero] at h1
          rw [h1]
          obtain ⟨l2, hl2⟩ : ∃ l2, acc ++ List.replicate m b = l2 := ⟨_, rfl⟩
          have hl2l : l2.length = acc.length + m := by rw [← hl2, List.length_append, List.length_replicate]
          rw [hl2, PRunsGet.bedrockref05_Get.l1, if_neg (by omega)]
          have hG : ∀ (h : m = 0 ∨ n - acc.length < m ∨ acc.getLast? = some b), getG (f + 1) n X acc = none := fun h => getG_bad _ _ _ _ hlt (by
            refine decide_eq_true ?_
            rw [hdec]
            simp only
            rw [hbe]
            exact .inr (.inr h))
          by_cases hm0 : m = 0
          · rw [if_pos (by omega), hG (.inl hm0)]; rfl
          · rw [if_neg (by omega)]
            by_cases hmm : n - acc.length < m
            · rw [if_pos (by omega), hG (.inr (.inl hmm))]; rfl
            · rw [if_neg (by omega)]
              have wm := Lib.hid (show wrap64 (m : Int) = (m : Int) from w64n _ (by omega))
              have wlm := Lib.hid (show wrap64 ((l2.length : Int) - (m : Int)) = (acc.length : Int) from by rw [show (l2.length : Int) - (m : Int) = ((acc.length : Nat) : Int) by omega]; exact w64n _ (by omega))
              have wak := Lib.hid (show wrap64 ((at_ : Int) + (k : Int)) = ((at_ + k : Nat) : Int) from by rw [← Int.natCast_add]; exact w64n _ (by omega))
              have wak1 := Lib.hid (show wrap64 (((at_ + k : Nat) : Int) + 1) = ((at_ + k + 1 : Nat) : Int) from by rw [show ((at_ + k : Nat) : Int) + 1 = ((at_ + k + 1 : Nat) : Int) by omega]; exact w64n _ (by omega))
              have wl1 := Lib.hid (show wrap64 ((l2.length : Int) - 1) = ((l2.length - 1 : Nat) : Int) from by rw [show (l2.length : Int) - 1 = ((l2.length - 1 : Nat) : Int) by omega]; exact w64n _ (by omega))
              rw [wm.out, wlm.out, wak.out, wak1.out, wl1.out]
              have go : (acc.getLast? ≠ some b) → PRunsGet.bedrockref05_Get.l0 F2 X0 (n : Int) l2 ((at_ + k + 1 : Nat) : Int) = some (ansR (getG (f + 1) n X acc) X0.length) := by
                intro hne
                have hG2 : getG (f + 1) n X acc = getG f n (X.drop (k + 1)) l2 := by
                  rw [getG_go _ _ _ _ hlt (by
                    refine decide_eq_false ?_
                    rw [hdec]
                    simp only
                    rw [hbe]
                    rintro (h | h | h | h | h)
                    · exact hk0 h
                    · omega
                    · exact hm0 h
                    · exact hmm h
                    · exact hne h), hdec]
                  simp only
                  rw [hbe, hl2]
                rw [hG2, ← hXd, List.drop_drop, show at_ + (k + 1) = at_ + k + 1 by omega]
                exact ref_l0 X0 n hX hb hn d f (at_ + k + 1) l2 F2 (by omega) (by omega) (by omega) (by omega) (by omega)
              by_cases ha0 : 0 < acc.length
              · have wl2 : wrap64 ((acc.length : Int) - 1) = ((acc.length - 1 : Nat) : Int) := by rw [show (acc.length : Int) - 1 = ((acc.length - 1 : Nat) : Int) by omega]; exact w64n _ (by omega)
                have r1 : l2.getD (acc.length - 1) 0 = acc.getD (acc.length - 1) 0 := by rw [← hl2]; exact getD_app_left _ _ _ (by omega)
                have r2 : l2.getD (l2.length - 1) 0 = b := by rw [← hl2] at hl2l ⊢; exact getD_rep _ _ _ _ (by omega) (by omega)
                rw [wl2]
                clear wl2
                rw [if_pos (by omega), if_pos (by omega), if_pos (by omega), if_pos (by omega), if_pos (by omega), rdn, rdn, r1, r2]
                by_cases hx : acc.getD (acc.length - 1) 0 = b
                · rw [if_pos hx, hG (.inr (.inr (by rw [last_getD acc ha0, hx])))]; rfl
                · rw [if_neg hx]
                  exact go (by rw [last_getD acc ha0]; intro e; injection e with e; exact hx e)
              · rw [if_neg (by omega)]
                exact go (by rw [List.eq_nil_of_length_eq_zero (show acc.length = 0 by omega)]; simp)
      have wak : wrap64 ((at_ : Int) + (k : Int)) = (at_ : Int) + (k : Int) := by
        by_cases hk0 : k = 0
        · subst hk0; rw [show (at_ : Int) + ((0 : Nat) : Int) = (at_ : Int) by omega]; exact w64n _ (by omega)
        · have := (dec_back X hXb m k hdec hk0).2.2.2.1
          rw [← Int.natCast_add]; exact w64n _ (by omega)
      rw [wak]
      clear wak
      by_cases hk0 : k = 0
      · rw [if_pos (by omega)]
        exact fin true (fun _ => rfl) (fun h => absurd (.inl hk0) h)
      · rw [if_neg (by omega)]
        by_cases hk1 : X.length ≤ k
        · rw [if_pos (by omega)]
          exact fin true (fun _ => rfl) (fun h => absurd (.inr (.inl hk1)) h)
        · rw [if_neg (by omega)]
          exact fin _ (fun h => decide_eq_true (by rcases h with h | h | h <;> omega)) (fun h => decide_eq_false (by omega))
    · rw [if_neg (by omega), getG_end _ _ _ _ hlt]
      unfold ansR
      simp only [List.length_drop, Option.some.injEq, Prod.mk.injEq, and_true, true_and]
      omega
  termination_by d _ _ _ _ _ _ _ _ _ => d
theorem refget_f (X : List Int) (n : Nat) (hX : X.length ≤ 1000000) (hb : Bytes X) (hn : n ≤ 65536) : PRunsGet.bedrockref05_Get.f (100000 * (n + 1) + 101) X (n : Int) = some (ansR (getG (n + 1) n X []) X.length) := by
  unfold PRunsGet.bedrockref05_Get.f
  obtain ⟨F, hF⟩ : ∃ F, 100000 * (n + 1) + 100 = F := ⟨_, rfl⟩
  rw [if_neg (by omega), show 100000 * (n + 1) + 101 = F + 1 by omega, PRunsGet.bedrockref05_Get.j0, decide_eq_false (by omega), if_neg (by decide)]
  exact ref_l0 X n hX hb hn n (n + 1) 0 [] F (by simp) (by omega) (by simp) (by omega) (by omega)
theorem refget_arg (X : List Int) (n : Int) (hn : n < 0 ∨ 65536 < n) : PRunsGet.bedrockref05_Get.f 1 X n = some ([], 0, 2) := by
  unfold PRunsGet.bedrockref05_Get.f
  by_cases h : n < 0
  · rw [if_pos h, PRunsGet.bedrockref05_Get.j0, if_pos rfl]
  · rw [if_neg h, PRunsGet.bedrockref05_Get.j0, decide_eq_true (by omega), if_pos rfl]
/-- What the document answers to bytes and a length. -/
def wantR (X : List Int) (n : Int) : List Int × Int × Int := if n < 0 ∨ 65536 < n then ([], 0, 2) else ansR (getG (n.toNat + 1) n.toNat X []) X.length
theorem refget_calls (A : Option Addr) (c : Nat) (X : List Int) (n : Int) (w : World) (hr : ReadsInt w .u8 A X.length X) (hc : X.length ≤ c) (hb : Bytes X) (hX : X.length ≤ 1000000) :
    Calls Try.prog 9 #[.slice A X.length c, .int .i64 n] w fun e w' => ∃ v, e = .returned (.tuple #[v, .int .i64 (wantR X n).2.1, .int .i64 (wantR X n).2.2]) ∧ OB w' w.heap.size v (wantR X n).1 ∧ Below w.heap.size w w' := by
  unfold wantR
  by_cases h : n < 0 ∨ 65536 < n
  · rw [if_pos h]
    exact (PRunsGet.bedrockref05_Get.calls 1 A c X n [] 0 2 w (Kd.C_of_reads (d := (0 : Int)) (h1 := fun _ => rfl) hr) hc (refget_arg X n h)).mono fun e w' ⟨v, he, hR, hb⟩ => ⟨v, he, OB.of_R hR, hb⟩
  · rw [if_neg h]
    obtain ⟨m, rfl⟩ := Int.eq_ofNat_of_zero_le (show 0 ≤ n by omega)
    rw [Int.toNat_natCast]
    have hf := refget_f X m hX hb (by omega)
    obtain ⟨⟨r1, r2, r3⟩, hq⟩ : ∃ q, ansR (getG (m + 1) m X []) X.length = q := ⟨_, rfl⟩
    rw [hq] at hf ⊢
    exact (PRunsGet.bedrockref05_Get.calls _ A c X (m : Int) r1 r2 r3 w (Kd.C_of_reads (d := (0 : Int)) (h1 := fun _ => rfl) hr) hc hf).mono fun e w' ⟨v, he, hR, hb⟩ => ⟨v, he, OB.of_R hR, hb⟩
end Go.Proofs.Ytijdjpcmndjbcaa.RU

namespace Go.Proofs.Ytijdjpcmndjbcaa.RU
open Go.RowKit Go.Proofs.YtijdjpcmndjbcaaW.PrintWords Go.Proofs.YtijdjpcmndjbcaaW.PrintLast Go.Proofs.YtijdjpcmndjbcaaW.PrintMore Go.Proofs.Ytijdjpcmndjbcaa.CD Go.Proofs.Ytijdjpcmndjbcaa.BR
set_option linter.unusedVariables false
set_option linter.unusedSimpArgs false
theorem rgetA_calls (A : Option Addr) (c : Nat) (X : List Int) (n : Int) (w : World) (hr : ReadsInt w .u8 A X.length X) (hc : X.length ≤ c) (hb : Bytes X) (hs : X.length ≤ 140737488355328) :
    Calls Try.prog 8 #[.slice A X.length c, .int .i64 n] w fun e w' => ∃ v, e = .returned (.tuple #[v, .int .i64 (wantR X n).2.1, .int .i64 (wantR X n).2.2]) ∧ OB w' w.heap.size v (wantR X n).1 ∧ Below w.heap.size w w' := by
  unfold wantR
  by_cases h : n < 0 ∨ 65536 < n
  · rw [if_pos h]
    exact (rget_arg A c X.length n w h).mono fun e w' ⟨he, hw⟩ => ⟨_, he, own_nil _ _ _ _, hw ▸ Below.refl _ _⟩
  · rw [if_neg h]
    obtain ⟨m, rfl⟩ := Int.eq_ofNat_of_zero_le (show 0 ≤ n by omega)
    rw [Int.toNat_natCast]
    refine (rget_calls A c m X w hr hc hb hs (by omega)).mono ?_
    rintro e w' ⟨h1, h2⟩
    cases hg : getG (m + 1) m X [] with
    | none => rw [hg] at h1; exact ⟨_, h1, own_nil _ _ _ _, h2⟩
    | some q =>
      rw [hg] at h1
      obtain ⟨v, he, ho⟩ := h1
      exact ⟨v, he, ho, h2⟩
theorem get_long (A : Option Addr) (c k : Nat) (n : Int) (w : World) (hk : 20000 < k) :
    Calls Try.prog 3 #[.slice A k c, .int .i64 n] w fun e w' => e = .returned (.bool true) ∧ Below w.heap.size w w' := by
  have hgt := decide_eq_true (show (20000 : Int) < (k : Int) by omega)
  go_enter Try.func3, Try.ntmps3
  go_wp2_with fail
  refine (awake_calls _).mono ?_; rintro e w2 ⟨rfl, hb2⟩
  go_wp2
  go_ret
  exact ⟨rfl, hb2⟩
set_option maxHeartbeats 1000000 in
set_option maxRecDepth 100000 in
theorem get_law (A : Option Addr) (c : Nat) (X : List Int) (n : Int) (w : World) (hr : ReadsInt w .u8 A X.length X) (hc : X.length ≤ c) (hb : Bytes X) (hx : X.length ≤ 20000) (hbl : ∀ ad, A = some ad → 0 < X.length → ad.block < w.heap.size) :
    Calls Try.prog 3 #[.slice A X.length c, .int .i64 n] w fun e w' => e = .returned (.bool true) ∧ Below w.heap.size w w' := by
  have hgt := decide_eq_false (show ¬ (20000 : Int) < (X.length : Int) by omega)
  have HX := Lib.hid hr
  have HBl := Lib.hid hbl
  have HGA := Lib.hid (fun (A : Option Addr) (c : Nat) (W : World) (h : ReadsInt W .u8 A X.length X) (hc : X.length ≤ c) => rgetA_calls A c X n W h hc hb (by omega))
  have HRA := Lib.hid (fun (W : World) (h : ReadsInt W .u8 A X.length X) => refget_calls A c X n W h hc hb (by omega))
  obtain ⟨⟨L, K, E⟩, hq⟩ : ∃ q, wantR X n = q := ⟨_, rfl⟩
  rw [hq] at HGA HRA
  simp only at HGA HRA
  have hK := bne_eq_false_iff_eq.mpr (show K = K from rfl)
  have hE := bne_eq_false_iff_eq.mpr (show E = E from rfl)
  have eT := BS.beq_same (strOfNums L)
  have eX := BS.beq_same (strOfNums X)
  clear hr hb hq hbl
  go_enter Try.func3, Try.ntmps3
  go_wp2_with (at_builtin; refine print_append_row (w0 := w) w.heap.size rfl (.tmp 20) (.tmp 21) 22 5 .u8 1 rfl Try.underlying22 infoU8 (by decide) (.slice (some ⟨w.heap.size, 0, none⟩) 0 0) [] X A X.length c rfl rfl (OB.empty w _ (Nat.le_refl _)) (HX.out.below (below_alloc (Below.refl _ _) _)) (below_alloc (Below.refl _ _) _) (by simp) (by simp; omega) ?_; intro v1 w1 hown hb1 hg hat; rw [List.nil_append] at hown; have HO1 := Lib.hid hown; have HB1 := Lib.hid hb1; clear hown hb1 hg hat; obtain ⟨A1, c1, rfl, hc1, hr1⟩ := OB.slice HO1.out; have HR1 := Lib.hid hr1; clear hr1)
  refine (HGA.out A1 c1 _ HR1.out hc1).mono ?_; rintro e w2 ⟨v2, rfl, ho2, hb2⟩
  obtain ⟨A2, c2, rfl, hc2, hr2⟩ := OB.slice ho2
  have HO2 := Lib.hid ho2
  have HB2 := Lib.hid (below_step HB1.out hb2)
  have HR12 := Lib.hid (HR1.out.below hb2)
  have HO12 := Lib.hid (OB.below HO1.out hb2)
  have s12 := hb2.size
  have hL63 : L.length ≤ 9223372036854775807 := hr2.2.1
  clear ho2 hb2 hr2
  go_wp2_with fail
  refine (HGA.out A1 c1 _ HR12.out hc1).mono ?_; rintro e w3 ⟨v3, rfl, ho3, hb3⟩
  obtain ⟨A3, c3, rfl, hc3, hr3⟩ := OB.slice ho3
  have HO3 := Lib.hid ho3
  have HB3 := Lib.hid (below_step HB2.out hb3)
  have HO13 := Lib.hid (OB.below HO12.out hb3)
  have HO23 := Lib.hid (OB.below HO2.out hb3)
  have s23 := hb3.size
  clear ho3 hb3 hr3
  go_wp2_with fail
  refine (HRA.out _ (HX.out.below HB3.out)).mono ?_; rintro e w4 ⟨v4, rfl, ho4, hb4⟩
  obtain ⟨A4, c4, rfl, hc4, hr4⟩ := OB.slice ho4
  have HO4 := Lib.hid ho4
  have HB4 := Lib.hid (below_step HB3.out hb4)
  have HO14 := Lib.hid (OB.below HO13.out hb4)
  have HO24 := Lib.hid (OB.below HO23.out hb4)
  have HO34 := Lib.hid (OB.below HO3.out hb4)
  have s34 := hb4.size
  have k1 := string_of L A2 c2 w4 (OB.reads HO24.out)
  have k2 := string_of L A4 c4 w4 hr4
  have sw1 := HB1.out.size
  clear ho4 hb4 hr4
  go_wp2_with fail
  go_loopw [15] (fun iv W => ∃ (i : Nat) (l : List Int), i ≤ L.length ∧ iv = .int .i64 (i : Int) ∧ l.length = L.length ∧ Aside0 (OB W w1.heap.size (.slice A2 L.length c2) l) ∧ Aside0 (w4.grownBy W (Value.slice A2 L.length c2).ownBlock)) (fun iv _ => L.length - (intOf iv).toNat)
  case atStart => exact ⟨0, L, by omega, rfl, rfl, ⟨HO24.out⟩, ⟨World.grownBy.refl _ _⟩⟩
  case round =>
    obtain ⟨i, l, hi, rfl, hll, ⟨ho⟩, ⟨hg⟩⟩ := hrel
    by_cases hlt : i < L.length
    · have hd := decide_eq_true (show (i : Int) < (L.length : Int) by omega)
      obtain ⟨g, rfl, hgb, hgl⟩ := OB.form ho (by omega)
      have ho' : OB wr w1.heap.size (.slice (some ⟨g, 0, none⟩) l.length c2) l := by rw [hll]; exact ho
      obtain ⟨hcl, hfl⟩ := ho'.at_ i (by omega)
      have hst := fun x => ho'.store i x
      have HST := Lib.hid hst
      have HG := Lib.hid hg
      have p1 : (0 ≤ (i : Int)) = True := eq_true (by omega)
      have p2 : ((i : Int) < (L.length : Int)) = True := eq_true (by omega)
      clear ho ho' hst hg k1 k2
      go_wp2
      go_roundw
      case rel =>
        have h := HST.out (bits .xor .u8 (rd l (i : Int)) 255)
        rw [List.length_set, hll] at h
        exact ⟨i + 1, l.set i (bits .xor .u8 (rd l (i : Int)) 255), by omega, by go_num, by rw [List.length_set]; exact hll, ⟨h⟩, ⟨gset HG.out i _⟩⟩
      case measure => simp [intOf]; omega
    · have hd := decide_eq_false (show ¬ (i : Int) < (L.length : Int) by omega)
      have hge : ∀ k, (Value.slice A2 L.length c2).ownBlock = some k → w1.heap.size ≤ k ∧ k < w2.heap.size := fun k e => ⟨own_base HO2.out k e, own_lt HO2.out k e⟩
      have HO15 : OB wr w.heap.size (.slice A1 X.length c1) X := own_keep HO14.out hg (fun k h e => by have := own_lt HO1.out k h; have := (hge k e.symm).1; omega)
      have HO35 : OB wr w2.heap.size (.slice A3 L.length c3) L := own_keep HO34.out hg (fun k h e => by have := own_base HO34.out k h; have := (hge k e.symm).2; omega)
      have HO45 : OB wr w3.heap.size (.slice A4 L.length c4) L := own_keep HO4.out hg (fun k h e => by have := own_base HO4.out k h; have := (hge k e.symm).2; omega)
      have HX5 : ReadsInt wr .u8 A X.length X := reads_kept (HX.out.below HB4.out) fun ad e h0 hl => hg.block _ hl (fun e2 => by have := HBl.out ad e h0; have := (hge _ e2.symm).1; omega)
      have HB5 : Below w.heap.size w wr := HB4.out.grown hg (HB4.out.size) (fun k e => by have := (hge k e).1; omega)
      have j1 := string_of L A3 c3 wr (OB.reads HO35)
      have j2 := string_of L A4 c4 wr (OB.reads HO45)
      have j3 := string_of X A1 c1 wr (OB.reads HO15)
      have j4 := string_of X A c wr HX5
      have HB6 := Lib.hid HB5
      clear HO15 HO35 HO45 HX5 HB5 hge ho hg k1 k2
      go_wp2_with fail
      refine (awake_calls _).mono ?_; rintro e w6 ⟨rfl, hb6⟩
      have HB7 := Lib.hid (below_step HB6.out hb6)
      clear hb6
      go_wp2
      go_ret
      exact ⟨rfl, HB7.out⟩
theorem getWalk (A : Option Addr) (k c : Nat) (zs : List Int) (n : Int) (w : World)
    (h0 : (A = none ∧ k = 0 ∧ c = 0 ∧ zs = []) ∨ ∃ x, A = some x ∧ k ≤ c ∧ c ≤ maxLen ∧ zs.length = c ∧ (∀ i, i < zs.length → w.cell? (x.add i) = some (.int .u8 (zs.getD i 0))) ∧ ∀ n ∈ zs, (Lit.int .u8 n).wf = true) (y0 : k * 1 ≤ 140737488351232)
    (h1 : (Lit.int .i64 n).wf = true) :
    Calls Try.prog 3 #[.slice A k c, .int .i64 n] w fun e w' => e = .returned (.bool true) ∧ Below w.heap.size w w' := by
  obtain ⟨X, rfl, hc, hr, hb, hbl⟩ := open_row h0
  rcases Nat.lt_or_ge 20000 X.length with h | h
  · exact get_long A c _ n w h
  · exact get_law A c X n w hr hc hb h hbl
end Go.Proofs.Ytijdjpcmndjbcaa.RU
