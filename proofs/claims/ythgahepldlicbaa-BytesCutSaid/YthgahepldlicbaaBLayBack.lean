/- The walks of the laws' lay and back. -/
import Derived.Test.YthgahepldlicbaaBThing
import Derived.Outline
namespace Go.Proofs.Ythgahepldlicbaa.BP
open Go.RowKit Go.Proofs.YthgahepldlicbaaW.PrintWords Go.Proofs.YthgahepldlicbaaW.PrintLast Go.Proofs.YthgahepldlicbaaW.PrintMore Go.Proofs.Ythgahepldlicbaa.CD Go.Proofs.Ythgahepldlicbaa.BR Go.Proofs.Ythgahepldlicbaa.CR
set_option linter.unusedVariables false
set_option linter.unusedSimpArgs false
/-- What a call makes behind another made in the same world. -/
def Lays (w w' : World) (v : Value) (l : List Int) : Prop := OB w' w.heap.size v l ∧ Below w.heap.size w w'
theorem lays_of {w w1 w' : World} {v : Value} {l : List Int} (hb1 : Below w.heap.size w w1) (ho : OB w' w1.heap.size v l) (hb : Below w1.heap.size w1 w') : OB w' w.heap.size v l ∧ Below w.heap.size w w' := ⟨OB.base ho hb1.size, below_step hb1 hb⟩
set_option maxHeartbeats 1000000 in
set_option maxRecDepth 100000 in
theorem lay_calls (A : Option Addr) (c : Nat) (l : List Int) (a : Int) (n : Nat) (s : ByteArray) (w : World) (hr : ReadsInt w .u8 A l.length l) (hc : l.length ≤ c) (hn : n < 18446744073709551616) (hl : l.length < 140737488000000) :
    Calls Try.prog 28 #[.slice A l.length c, .agg #[.int .i64 a, .int .u64 (n : Int), .string s]] w fun e w' => ∃ v, e = .returned v ∧ OB w' w.heap.size v (l ++ tEnc (a, n, s)) ∧ Below w.heap.size w w' := by
  obtain ⟨o, ho⟩ : ∃ o, o = Obj.cells #[.int .i64 a, .int .u64 (n : Int), .string s] 54 := ⟨_, rfl⟩
  have Hx0 := blk_new w (.cells #[.int .i64 a, .int .u64 (n : Int), .string s] 54)
  have x0 := blk_cell Hx0 0
  have x1 := blk_cell Hx0 1
  have x2 := blk_cell Hx0 2
  simp only [List.getElem?_toArray, List.getElem?_cons_succ, List.getElem?_cons_zero] at x0 x1 x2
  have HB := Lib.hid (below_alloc (Below.refl w.heap.size w) (.cells #[.int .i64 a, .int .u64 (n : Int), .string s] 54))
  have HR := Lib.hid (hr.below HB.out)
  have HC := Lib.hid hc
  have HN := Lib.hid hn
  have HL := Lib.hid hl
  clear hr hc hn hl Hx0 ho
  by_cases h0 : Int.tmod a 4 = 0
  · have c0 : (Int.tmod a 4 == 0) = true := beq_iff_eq.mpr h0
    have e : tEnc (a, n, s) = num n := by unfold tEnc; rw [if_pos h0]
    rw [e]; clear e h0
    go_enter Try.func28, Try.ntmps28
    go_wp2_with fail
    refine (put_calls A c l n _ HR.out HC.out HN.out (by have := HL.out; omega)).mono ?_; rintro e w1 ⟨v, rfl, hv, hb⟩; have HV := Lib.hid (lays_of HB.out hv hb); clear hv hb
    go_wp2
    go_ret
    exact ⟨v, rfl, HV.out⟩
  · have c0 : (Int.tmod a 4 == 0) = false := beq_eq_false_iff_ne.mpr h0
    by_cases h1 : Int.tmod a 4 = 1
    · have c1 : (Int.tmod a 4 == 1) = true := beq_iff_eq.mpr h1
      have e : tEnc (a, n, s) = num (zig (wrap64 (n : Int))) := by unfold tEnc; rw [if_neg h0, if_pos h1]
      rw [e]; clear e h0 h1
      go_enter Try.func28, Try.ntmps28
      go_wp2_with fail
      refine (putInt_calls A c l _ _ HR.out HC.out (wrap64_range _) (by have := HL.out; omega)).mono ?_; rintro e w1 ⟨v, rfl, hv, hb⟩; have HV := Lib.hid (lays_of HB.out hv hb); clear hv hb
      go_wp2
      go_ret
      exact ⟨v, rfl, HV.out⟩
    · have c1 : (Int.tmod a 4 == 1) = false := beq_eq_false_iff_ne.mpr h1
      by_cases h2 : Int.tmod a 4 = 2
      · have c2 : (Int.tmod a 4 == 2) = true := beq_iff_eq.mpr h2
        have e : tEnc (a, n, s) = num (cutS s 200).size ++ bytesOf (cutS s 200) := by unfold tEnc; rw [if_neg h0, if_neg h1, if_pos h2]
        rw [e]; clear e h0 h1 h2
        have HS := Lib.hid (cutS_le s 200)
        go_enter Try.func28, Try.ntmps28
        go_wp2_with fail
        refine (cut_calls s 200 _ (by decide)).mono ?_; rintro e w1 ⟨rfl, hb1⟩; have HB1 := Lib.hid (below_step HB.out hb1); have HR1 := Lib.hid (HR.out.below hb1); clear hb1
        go_wp2_with fail
        refine (putText_calls A c l _ _ HR1.out HC.out (by have := HS.out; omega) HL.out).mono ?_; rintro e w2 ⟨v, rfl, hv, hb⟩; have HV := Lib.hid (lays_of HB1.out hv hb); clear hv hb
        go_wp2
        go_ret
        exact ⟨v, rfl, HV.out⟩
      · have c2 : (Int.tmod a 4 == 2) = false := beq_eq_false_iff_ne.mpr h2
        have e : tEnc (a, n, s) = fixW n 4 := by unfold tEnc; rw [if_neg h0, if_neg h1, if_neg h2, fixW4]
        rw [e]; clear e h0 h1 h2
        go_enter Try.func28, Try.ntmps28
        go_wp2_with fail
        refine (putFixed_calls A c l n 4 _ HR.out HC.out (by have := HL.out; omega)).mono ?_; rintro e w1 ⟨v, rfl, hv, hb⟩; have HV := Lib.hid (lays_of HB.out hv hb); clear hv hb
        go_wp2
        go_ret
        exact ⟨v, rfl, HV.out⟩
theorem cut200 (s : ByteArray) (w : World) : Calls Try.prog 10 #[.string s, .int .i64 200] w fun e w' => e = .returned (.string (cutS s 200)) ∧ Below w.heap.size w w' := cut_calls s 200 w (by decide)
theorem gof {w W w' : World} {g : Nat} (hb : Below w.heap.size w W) (hg : W.grownBy w' (some g)) : w.grownBy w' (some g) := gtrans (gofBelow hb) hg
set_option maxHeartbeats 1000000 in
set_option maxRecDepth 100000 in
theorem back_calls (g : Nat) (xs : List Int) (br : Bool) (a : Int) (n : Nat) (s : ByteArray) (w : World) (h : Rdr w g xs br) (hn : n < 18446744073709551616) :
    Calls Try.prog 29 #[.pointer (some ⟨g, 0, none⟩), .agg #[.int .i64 a, .int .u64 (n : Int), .string s]] w fun e w' => e = .returned (.bool (rBack (xs, br) (a, n, s)).1) ∧ Rdr w' g (rBack (xs, br) (a, n, s)).2.1 (rBack (xs, br) (a, n, s)).2.2 ∧ w.grownBy w' (some g) := by
  have Hx0 := blk_new w (.cells #[.int .i64 a, .int .u64 (n : Int), .string s] 54)
  have x0 := blk_cell Hx0 0
  have x1 := blk_cell Hx0 1
  have x2 := blk_cell Hx0 2
  simp only [List.getElem?_toArray, List.getElem?_cons_succ, List.getElem?_cons_zero] at x0 x1 x2
  have HB := Lib.hid (below_alloc (Below.refl w.heap.size w) (.cells #[.int .i64 a, .int .u64 (n : Int), .string s] 54))
  have HR := Lib.hid (h.below HB.out)
  have hne : w.heap.size ≠ g := Nat.ne_of_gt h.lt
  have HX1 := Lib.hid x1
  have HX2 := Lib.hid x2
  clear h Hx0 x1 x2
  by_cases h0 : Int.tmod a 4 = 0
  · have c0 : (Int.tmod a 4 == 0) = true := beq_iff_eq.mpr h0
    have e : rBack (xs, br) (a, n, s) = (((rNum (xs, br)).1 : Int) == (n : Int), (rNum (xs, br)).2) := by unfold rBack; rw [if_pos h0]
    rw [e]; clear e h0
    go_enter Try.func29, Try.ntmps29
    go_wp2_with fail
    -- REGION num
    refine start_ (n := 6) (S := fun w' => w'.cell? ⟨w.heap.size, 1, none⟩ = some (.int .u64 (n : Int))) (ds := []) #[false, false, false, false, false, false] (by kernel_rfl) rfl rfl (HX1.out) (fun hHeld => ?_)
    refine pure_ (i := 0) (N := some 10) (v := ?_) (a' := ?_) #[true, false, false, false, false, false] rfl rfl (by kernel_rfl) (fun _ _ _ h => h) (Or.inl ⟨by rfl, ?_⟩) ?_ ?_
    rotate_left
    · intro w'
      go_simp
      with_reducible rfl
    rotate_left
    · simp only [Act.put, List.setIfInBounds_toArray, List.set_cons_zero, List.set_cons_succ, i64_w, i32_w]
      rfl
    refine pure_ (i := 2) (N := some 12) (v := ?_) (a' := ?_) #[true, false, true, false, false, false] rfl rfl (by kernel_rfl) (fun _ _ _ h => h) (Or.inl ⟨by rfl, ?_⟩) ?_ ?_
    rotate_left
    · intro w'
      go_simp
      with_reducible rfl
    rotate_left
    · simp only [Act.put, List.setIfInBounds_toArray, List.set_cons_zero, List.set_cons_succ, i64_w, i32_w]
      rfl
    refine take_ (i := 3) (N := some 13) (v := ?_) (a' := ?_) #[true, false, true, true, false, false] rfl rfl (by kernel_rfl) (fun _ _ _ h => h) (Or.inl ⟨by rfl, ?_⟩) hHeld ?_ ?_
    rotate_left
    · intro w' s0
      go_simp
      with_reducible rfl
    rotate_left
    · simp only [Act.put, List.setIfInBounds_toArray, List.set_cons_zero, List.set_cons_succ, i64_w, i32_w]
      rfl
    refine one_ (i := 1) (N := some 11) #[true, true, true, true, false, false] rfl rfl (by kernel_rfl) (by decide) (fun K hK => ?_)
    refine goes_ Try.func21 (by kernel_rfl) rfl #[.pointer (some ⟨g, 0, none⟩)] (by rfl) rfl rfl (by simp only [List.map_toArray, List.map_cons, List.map_nil]; rfl) ?_
    with_reducible refine (num_calls g xs br _ (HR.out.below (below_drew (Below.refl _ _)))).mono ?_
    rintro e w1 ⟨rfl, hr, hg⟩
    refine ⟨_, rfl, ?_⟩
    have y1 := hg.cell HX1.out (fun e => hne (by injection e))
    have HG := Lib.hid (gof (below_step HB.out (below_drew (Below.refl _ _))) hg)
    have HR1 := Lib.hid hr
    clear hg hr
    refine hK.out _ _ (y1) (fun hHeld => ?_)
    clear hK K
    refine norm_ (a' := ?_) ?_ ?_
    rotate_left
    · show Act.put _ (some 11) _ = _
      simp only [Act.put, List.setIfInBounds_toArray, List.set_cons_zero, List.set_cons_succ, i64_w, i32_w]
      rfl
    refine pure_ (i := 4) (N := some 14) (v := ?_) (a' := ?_) #[true, true, true, true, true, false] rfl rfl (by kernel_rfl) (fun _ _ _ h => h) (Or.inl ⟨by rfl, ?_⟩) ?_ ?_
    rotate_left
    · intro w'
      go_simp
      with_reducible rfl
    rotate_left
    · simp only [Act.put, List.setIfInBounds_toArray, List.set_cons_zero, List.set_cons_succ, i64_w, i32_w]
      rfl
    refine pure_ (i := 5) (N := some 4) (v := ?_) (a' := ?_) #[true, true, true, true, true, true] rfl rfl (by kernel_rfl) (fun _ _ _ h => h) (Or.inl ⟨by rfl, ?_⟩) ?_ ?_
    rotate_left
    · intro w'
      go_simp
      with_reducible rfl
    rotate_left
    · simp only [Act.put, List.setIfInBounds_toArray, List.set_cons_zero, List.set_cons_succ, i64_w, i32_w]
      rfl
    refine done_ (by kernel_rfl) ?_

    -- END num
    go_wp2
    go_ret
    exact ⟨rfl, HR1.out, HG.out⟩
  · have c0 : (Int.tmod a 4 == 0) = false := beq_eq_false_iff_ne.mpr h0
    by_cases h1 : Int.tmod a 4 = 1
    · have c1 : (Int.tmod a 4 == 1) = true := beq_iff_eq.mpr h1
      have e : rBack (xs, br) (a, n, s) = ((rInt (xs, br)).1 == wrap64 (n : Int), (rInt (xs, br)).2) := by unfold rBack; rw [if_neg h0, if_pos h1]
      rw [e]; clear e h0 h1
      go_enter Try.func29, Try.ntmps29
      go_wp2_with fail
      -- REGION int
      refine start_ (n := 7) (S := fun w' => w'.cell? ⟨w.heap.size, 1, none⟩ = some (.int .u64 (n : Int))) (ds := []) #[false, false, false, false, false, false, false] (by kernel_rfl) rfl rfl (HX1.out) (fun hHeld => ?_)
      refine pure_ (i := 0) (N := some 17) (v := ?_) (a' := ?_) #[true, false, false, false, false, false, false] rfl rfl (by kernel_rfl) (fun _ _ _ h => h) (Or.inl ⟨by rfl, ?_⟩) ?_ ?_
      rotate_left
      · intro w'
        go_simp
        with_reducible rfl
      rotate_left
      · simp only [Act.put, List.setIfInBounds_toArray, List.set_cons_zero, List.set_cons_succ, i64_w, i32_w]
        rfl
      refine pure_ (i := 2) (N := some 19) (v := ?_) (a' := ?_) #[true, false, true, false, false, false, false] rfl rfl (by kernel_rfl) (fun _ _ _ h => h) (Or.inl ⟨by rfl, ?_⟩) ?_ ?_
      rotate_left
      · intro w'
        go_simp
        with_reducible rfl
      rotate_left
      · simp only [Act.put, List.setIfInBounds_toArray, List.set_cons_zero, List.set_cons_succ, i64_w, i32_w]
        rfl
      refine take_ (i := 3) (N := some 20) (v := ?_) (a' := ?_) #[true, false, true, true, false, false, false] rfl rfl (by kernel_rfl) (fun _ _ _ h => h) (Or.inl ⟨by rfl, ?_⟩) hHeld ?_ ?_
      rotate_left
      · intro w' s0
        go_simp
        with_reducible rfl
      rotate_left
      · simp only [Act.put, List.setIfInBounds_toArray, List.set_cons_zero, List.set_cons_succ, i64_w, i32_w]
        rfl
      refine take_ (i := 4) (N := some 21) (v := ?_) (a' := ?_) #[true, false, true, true, true, false, false] rfl rfl (by kernel_rfl) (fun _ _ _ h => h) (Or.inl ⟨by rfl, ?_⟩) hHeld ?_ ?_
      rotate_left
      · intro w' s0
        go_simp
        with_reducible rfl
      rotate_left
      · simp only [Act.put, List.setIfInBounds_toArray, List.set_cons_zero, List.set_cons_succ, i64_w, i32_w]
        rfl
      refine one_ (i := 1) (N := some 18) #[true, true, true, true, true, false, false] rfl rfl (by kernel_rfl) (by decide) (fun K hK => ?_)
      refine goes_ Try.func24 (by kernel_rfl) rfl #[.pointer (some ⟨g, 0, none⟩)] (by rfl) rfl rfl (by simp only [List.map_toArray, List.map_cons, List.map_nil]; rfl) ?_
      with_reducible refine (int_calls g xs br _ (HR.out.below (below_drew (Below.refl _ _)))).mono ?_
      rintro e w1 ⟨rfl, hr, hg⟩
      refine ⟨_, rfl, ?_⟩
      have y1 := hg.cell HX1.out (fun e => hne (by injection e))
      have HG := Lib.hid (gof (below_step HB.out (below_drew (Below.refl _ _))) hg)
      have HR1 := Lib.hid hr
      clear hg hr
      refine hK.out _ _ (y1) (fun hHeld => ?_)
      clear hK K
      refine norm_ (a' := ?_) ?_ ?_
      rotate_left
      · show Act.put _ (some 18) _ = _
        simp only [Act.put, List.setIfInBounds_toArray, List.set_cons_zero, List.set_cons_succ, i64_w, i32_w]
        rfl
      refine pure_ (i := 5) (N := some 22) (v := ?_) (a' := ?_) #[true, true, true, true, true, true, false] rfl rfl (by kernel_rfl) (fun _ _ _ h => h) (Or.inl ⟨by rfl, ?_⟩) ?_ ?_
      rotate_left
      · intro w'
        go_simp
        with_reducible rfl
      rotate_left
      · simp only [Act.put, List.setIfInBounds_toArray, List.set_cons_zero, List.set_cons_succ, i64_w, i32_w]
        rfl
      refine pure_ (i := 6) (N := some 4) (v := ?_) (a' := ?_) #[true, true, true, true, true, true, true] rfl rfl (by kernel_rfl) (fun _ _ _ h => h) (Or.inl ⟨by rfl, ?_⟩) ?_ ?_
      rotate_left
      · intro w'
        go_simp
        with_reducible rfl
      rotate_left
      · simp only [Act.put, List.setIfInBounds_toArray, List.set_cons_zero, List.set_cons_succ, i64_w, i32_w]
        rfl
      refine done_ (by kernel_rfl) ?_

      -- END int
      go_wp2
      go_ret
      exact ⟨rfl, HR1.out, HG.out⟩
    · have c1 : (Int.tmod a 4 == 1) = false := beq_eq_false_iff_ne.mpr h1
      by_cases h2 : Int.tmod a 4 = 2
      · have c2 : (Int.tmod a 4 == 2) = true := beq_iff_eq.mpr h2
        have e : rBack (xs, br) (a, n, s) = ((strOfNums (rText (xs, br) 200).1).toList == (cutS s 200).toList, (rText (xs, br) 200).2) := by unfold rBack; rw [if_neg h0, if_neg h1, if_pos h2]
        rw [e]; clear e h0 h1 h2
        go_enter Try.func29, Try.ntmps29
        go_wp2_with fail
        -- REGION text
        refine start_ (n := 7) (S := fun w' => w'.cell? ⟨w.heap.size, 2, none⟩ = some (.string s)) (ds := []) #[false, false, false, false, false, false, false] (by kernel_rfl) rfl rfl (HX2.out) (fun hHeld => ?_)
        refine pure_ (i := 0) (N := some 25) (v := ?_) (a' := ?_) #[true, false, false, false, false, false, false] rfl rfl (by kernel_rfl) (fun _ _ _ h => h) (Or.inl ⟨by rfl, ?_⟩) ?_ ?_
        rotate_left
        · intro w'
          go_simp
          with_reducible rfl
        rotate_left
        · simp only [Act.put, List.setIfInBounds_toArray, List.set_cons_zero, List.set_cons_succ, i64_w, i32_w]
          rfl
        refine pure_ (i := 2) (N := some 27) (v := ?_) (a' := ?_) #[true, false, true, false, false, false, false] rfl rfl (by kernel_rfl) (fun _ _ _ h => h) (Or.inl ⟨by rfl, ?_⟩) ?_ ?_
        rotate_left
        · intro w'
          go_simp
          with_reducible rfl
        rotate_left
        · simp only [Act.put, List.setIfInBounds_toArray, List.set_cons_zero, List.set_cons_succ, i64_w, i32_w]
          rfl
        refine take_ (i := 3) (N := some 28) (v := ?_) (a' := ?_) #[true, false, true, true, false, false, false] rfl rfl (by kernel_rfl) (fun _ _ _ h => h) (Or.inl ⟨by rfl, ?_⟩) hHeld ?_ ?_
        rotate_left
        · intro w' s0
          go_simp
          with_reducible rfl
        rotate_left
        · simp only [Act.put, List.setIfInBounds_toArray, List.set_cons_zero, List.set_cons_succ, i64_w, i32_w]
          rfl
        refine one_ (i := 1) (N := some 26) #[true, true, true, true, false, false, false] rfl rfl (by kernel_rfl) (by decide) (fun K hK => ?_)
        refine goes_ Try.func25 (by kernel_rfl) rfl #[.pointer (some ⟨g, 0, none⟩), .int .i64 200] (by rfl) rfl rfl (by simp only [List.map_toArray, List.map_cons, List.map_nil]; rfl) ?_
        with_reducible refine (text_calls g xs br 200 _ (by decide) (HR.out.below (below_drew (Below.refl _ _)))).mono ?_
        rintro e w1 ⟨rfl, hr, hg⟩
        refine ⟨_, rfl, ?_⟩
        have y1 := hg.cell HX2.out (fun e => hne (by injection e))
        have HG := Lib.hid (gof (below_step HB.out (below_drew (Below.refl _ _))) hg)
        have HR1 := Lib.hid hr
        clear hg hr
        refine hK.out _ _ (y1) (fun hHeld => ?_)
        clear hK K
        refine norm_ (a' := ?_) ?_ ?_
        rotate_left
        · show Act.put _ (some 26) _ = _
          simp only [Act.put, List.setIfInBounds_toArray, List.set_cons_zero, List.set_cons_succ, i64_w, i32_w]
          rfl
        refine one_ (i := 4) (N := some 29) #[true, true, true, true, true, false, false] rfl rfl (by kernel_rfl) (by decide) (fun K hK => ?_)
        refine goes_ Try.func10 (by kernel_rfl) rfl #[.string s, .int .i64 200] (by rfl) rfl rfl (by simp only [List.map_toArray, List.map_cons, List.map_nil]; rfl) ?_
        with_reducible refine (cut200 s _).mono ?_
        rintro e w2 ⟨rfl, hb2⟩
        refine ⟨_, rfl, ?_⟩
        have HG2 := Lib.hid (gbelow HG.out hb2)
        have HR2 := Lib.hid (HR1.out.below hb2)
        have y2 := pw_cell_below hb2 y1
        clear hb2
        refine hK.out _ _ (y2) (fun hHeld => ?_)
        clear hK K
        refine norm_ (a' := ?_) ?_ ?_
        rotate_left
        · show Act.put _ (some 29) _ = _
          simp only [Act.put, List.setIfInBounds_toArray, List.set_cons_zero, List.set_cons_succ, i64_w, i32_w]
          rfl
        refine pure_ (i := 5) (N := some 30) (v := ?_) (a' := ?_) #[true, true, true, true, true, true, false] rfl rfl (by kernel_rfl) (fun _ _ _ h => h) (Or.inl ⟨by rfl, ?_⟩) ?_ ?_
        rotate_left
        · intro w'
          go_simp
          with_reducible rfl
        rotate_left
        · simp only [Act.put, List.setIfInBounds_toArray, List.set_cons_zero, List.set_cons_succ, i64_w, i32_w]
          rfl
        refine pure_ (i := 6) (N := some 4) (v := ?_) (a' := ?_) #[true, true, true, true, true, true, true] rfl rfl (by kernel_rfl) (fun _ _ _ h => h) (Or.inl ⟨by rfl, ?_⟩) ?_ ?_
        rotate_left
        · intro w'
          go_simp
          with_reducible rfl
        rotate_left
        · simp only [Act.put, List.setIfInBounds_toArray, List.set_cons_zero, List.set_cons_succ, i64_w, i32_w]
          rfl
        refine done_ (by kernel_rfl) ?_

        -- END text
        go_wp2
        go_ret
        exact ⟨rfl, HR2.out, HG2.out⟩
      · have c2 : (Int.tmod a 4 == 2) = false := beq_eq_false_iff_ne.mpr h2
        have e : rBack (xs, br) (a, n, s) = (((rFixed (xs, br) 4).1 : Int) == Int.tmod (n : Int) 4294967296, (rFixed (xs, br) 4).2) := by unfold rBack; rw [if_neg h0, if_neg h1, if_neg h2]
        rw [e]; clear e h0 h1 h2
        go_enter Try.func29, Try.ntmps29
        go_wp2_with fail
        -- REGION fixed
        refine start_ (n := 7) (S := fun w' => w'.cell? ⟨w.heap.size, 1, none⟩ = some (.int .u64 (n : Int))) (ds := []) #[false, false, false, false, false, false, false] (by kernel_rfl) rfl rfl (HX1.out) (fun hHeld => ?_)
        refine pure_ (i := 0) (N := some 31) (v := ?_) (a' := ?_) #[true, false, false, false, false, false, false] rfl rfl (by kernel_rfl) (fun _ _ _ h => h) (Or.inl ⟨by rfl, ?_⟩) ?_ ?_
        rotate_left
        · intro w'
          go_simp
          with_reducible rfl
        rotate_left
        · simp only [Act.put, List.setIfInBounds_toArray, List.set_cons_zero, List.set_cons_succ, i64_w, i32_w]
          rfl
        refine pure_ (i := 2) (N := some 33) (v := ?_) (a' := ?_) #[true, false, true, false, false, false, false] rfl rfl (by kernel_rfl) (fun _ _ _ h => h) (Or.inl ⟨by rfl, ?_⟩) ?_ ?_
        rotate_left
        · intro w'
          go_simp
          with_reducible rfl
        rotate_left
        · simp only [Act.put, List.setIfInBounds_toArray, List.set_cons_zero, List.set_cons_succ, i64_w, i32_w]
          rfl
        refine take_ (i := 3) (N := some 34) (v := ?_) (a' := ?_) #[true, false, true, true, false, false, false] rfl rfl (by kernel_rfl) (fun _ _ _ h => h) (Or.inl ⟨by rfl, ?_⟩) hHeld ?_ ?_
        rotate_left
        · intro w' s0
          go_simp
          with_reducible rfl
        rotate_left
        · simp only [Act.put, List.setIfInBounds_toArray, List.set_cons_zero, List.set_cons_succ, i64_w, i32_w]
          rfl
        refine pure_ (i := 4) (N := some 35) (v := ?_) (a' := ?_) #[true, false, true, true, true, false, false] rfl rfl (by kernel_rfl) (fun _ _ _ h => h) (Or.inl ⟨by rfl, ?_⟩) ?_ ?_
        rotate_left
        · intro w'
          go_simp
          with_reducible rfl
        rotate_left
        · simp only [Act.put, List.setIfInBounds_toArray, List.set_cons_zero, List.set_cons_succ, i64_w, i32_w]
          rfl
        refine one_ (i := 1) (N := some 32) #[true, true, true, true, true, false, false] rfl rfl (by kernel_rfl) (by decide) (fun K hK => ?_)
        refine goes_ Try.func33 (by kernel_rfl) rfl #[.pointer (some ⟨g, 0, none⟩), .int .i64 4] (by rfl) rfl rfl (by simp only [List.map_toArray, List.map_cons, List.map_nil]; rfl) ?_
        with_reducible refine (fixed_calls g xs br 4 _ (HR.out.below (below_drew (Below.refl _ _)))).mono ?_
        rintro e w1 ⟨rfl, hr, hg⟩
        refine ⟨_, rfl, ?_⟩
        have y1 := hg.cell HX1.out (fun e => hne (by injection e))
        have HG := Lib.hid (gof (below_step HB.out (below_drew (Below.refl _ _))) hg)
        have HR1 := Lib.hid hr
        clear hg hr
        refine hK.out _ _ (y1) (fun hHeld => ?_)
        clear hK K
        refine norm_ (a' := ?_) ?_ ?_
        rotate_left
        · show Act.put _ (some 32) _ = _
          simp only [Act.put, List.setIfInBounds_toArray, List.set_cons_zero, List.set_cons_succ, i64_w, i32_w]
          rfl
        refine pure_ (i := 5) (N := some 36) (v := ?_) (a' := ?_) #[true, true, true, true, true, true, false] rfl rfl (by kernel_rfl) (fun _ _ _ h => h) (Or.inl ⟨by rfl, ?_⟩) ?_ ?_
        rotate_left
        · intro w'
          go_simp
          with_reducible rfl
        rotate_left
        · simp only [Act.put, List.setIfInBounds_toArray, List.set_cons_zero, List.set_cons_succ, i64_w, i32_w]
          rfl
        refine pure_ (i := 6) (N := some 4) (v := ?_) (a' := ?_) #[true, true, true, true, true, true, true] rfl rfl (by kernel_rfl) (fun _ _ _ h => h) (Or.inl ⟨by rfl, ?_⟩) ?_ ?_
        rotate_left
        · intro w'
          go_simp
          with_reducible rfl
        rotate_left
        · simp only [Act.put, List.setIfInBounds_toArray, List.set_cons_zero, List.set_cons_succ, i64_w, i32_w]
          rfl
        refine done_ (by kernel_rfl) ?_

        -- END fixed
        go_wp2
        go_ret
        exact ⟨rfl, HR1.out, HG.out⟩
end Go.Proofs.Ythgahepldlicbaa.BP
