/- For every text ahead and every number, whole number, text and width: what is laid behind the text's first 1000 bytes is what the reference lays; what it is laid behind stays. -/
import Derived.Test.YthgahepldlicbaaCodecR
import Derived.Test.YthgahepldlicbaaBWorks
import Derived.Test.YthgahepldlicbaaBCut
import Derived.Test.YthgahepldlicbaaBOwn
import Derived.Outline
import Derived.DataShut
namespace Go.Proofs.Ythgahepldlicbaa.BP
open Go.RowKit Go.Proofs.YthgahepldlicbaaW.PrintWords Go.Proofs.YthgahepldlicbaaW.PrintLast Go.Proofs.YthgahepldlicbaaW.PrintMore Go.Proofs.Ythgahepldlicbaa.CD Go.Proofs.Ythgahepldlicbaa.BR Go.Proofs.Ythgahepldlicbaa.CR
set_option linter.unusedVariables false
set_option linter.unusedSimpArgs false
theorem hcv {A : Option Addr} {c : Nat} {l : List Int} {W : World} (hr : ReadsInt W .u8 A l.length l) : (convert 26 9 (.slice A l.length c)).run Try.prog W = .ok (.string (strOfNums l)) W :=
  string_of_reads (c := c) (src := 26) Try.underlying26 Try.underlying5 Try.underlying9 hr
theorem bw_size (W : World) (t : ByteArray) : (bw W t).heap.size = W.heap.size + 1 := by
  show (Lib.bytesWorld W 5 t).heap.size = _
  unfold Lib.bytesWorld World.freeze; split <;> simp
set_option maxHeartbeats 1000000 in
set_option maxRecDepth 100000 in
theorem layLaw (s : ByteArray) (n : Nat) (i : Int) (sx : ByteArray) (wd : Int) (w : World) (hn : n < 18446744073709551616) (hi : -9223372036854775808 ≤ i ∧ i < 9223372036854775808) :
    Calls Try.prog 3 #[.string s, .agg #[.int .u64 (n : Int), .int .i64 i, .string sx, .int .i64 wd]] w fun e w' => e = .returned (.bool true) ∧ Below w.heap.size w w' := by
  have HC1 := Lib.hid (fun w' => cut_calls s 1000 w' (by decide))
  have HC2 := Lib.hid (fun w' => cut_calls sx 1000 w' (by decide))
  obtain ⟨t, ht⟩ : ∃ t, t = cutS s 1000 := ⟨_, rfl⟩
  obtain ⟨u, hu⟩ : ∃ u, u = cutS sx 1000 := ⟨_, rfl⟩
  rw [← ht] at HC1
  rw [← hu] at HC2
  have htl : t.size ≤ 1000 := by rw [ht]; exact cutS_le _ _
  have hul : u.size ≤ 1000 := by rw [hu]; exact cutS_le _ _
  clear ht hu
  obtain ⟨X, hX⟩ : ∃ X, X = bytesOf t := ⟨_, rfl⟩
  have hXl : X.length = t.size := by rw [hX]; exact bytesOf_length t
  have Hb := Lib.hid (fun W => bw_reads W t (by omega))
  have Hc := Lib.hid (fun W => grownCap_ge W t.size 0 5)
  rw [← hX] at Hb
  have HX := Lib.hid hX
  have kb := bytes_run t
  rw [← hXl] at kb Hc
  have hX8 : X.length < 140737488000000 := by omega
  clear hXl hX
  have Hn := Lib.hid hn
  have Hi := Lib.hid hi
  clear hn hi
  go_enter Try.func3, Try.ntmps3
  go_wp2_with fail
  refine (HC1.out _).mono ?_; rintro e w1 ⟨rfl, hb1⟩
  have HB1 := Lib.hid (below_step (below_alloc (Below.refl _ _) _) hb1)
  have Hx0 := Lib.hid (blk_new w (.cells #[.int .u64 (n : Int), .int .i64 i, .string sx, .int .i64 wd] 24))
  have Hx1 := Lib.hid (blk_below Hx0.out hb1)
  have x0 := blk_cell Hx1.out 0
  have x1 := blk_cell Hx1.out 1
  have x2 := blk_cell Hx1.out 2
  have x3 := blk_cell Hx1.out 3
  simp only [List.getElem?_toArray, List.getElem?_cons_succ, List.getElem?_cons_zero] at x0 x1 x2 x3
  clear hb1
  go_wp2_with fail
  refine (HC2.out _).mono ?_; rintro e w2 ⟨rfl, hb2⟩
  have hb3 := below_step hb2 (bw_below w2 t)
  have HB3 := Lib.hid (below_step HB1.out hb3)
  clear x0 x1 x2 x3
  have Hx3 := Lib.hid (blk_below Hx1.out hb3)
  have x0 := blk_cell Hx3.out 0
  have x1 := blk_cell Hx3.out 1
  have x2 := blk_cell Hx3.out 2
  have x3 := blk_cell Hx3.out 3
  simp only [List.getElem?_toArray, List.getElem?_cons_succ, List.getElem?_cons_zero] at x0 x1 x2 x3
  have HR3 := Lib.hid (Hb.out w2)
  have HC3 := Lib.hid (Hc.out w2)
  clear hb2 hb3
  go_wp2_with fail
  refine (put_calls _ _ X n _ HR3.out HC3.out Hn.out (by omega)).mono ?_; rintro e w4 ⟨v4, rfl, ho4, hb4⟩; obtain ⟨L4, hL4⟩ : ∃ L, L = X ++ num n := ⟨_, rfl⟩; rw [← hL4] at ho4; have HL4 := Lib.hid hL4; clear hL4; obtain ⟨A4, c4, rfl, hc4, hr4⟩ := ho4.slice; obtain ⟨g4, rfl, hg4, hg4'⟩ := ho4.form (by rw [HL4.out, List.length_append]; have := num_pos n; omega)
  have HG4 := Lib.hid hg4; have HG4' := Lib.hid hg4'; clear hg4 hg4'
  have HB4 := Lib.hid (below_step HB3.out hb4)
  have HO4 := Lib.hid ho4
  have HR34 := Lib.hid (HR3.out.below hb4)
  clear x0 x1 x2 x3
  have Hx4 := Lib.hid (blk_below Hx3.out hb4)
  have x0 := blk_cell Hx4.out 0
  have x1 := blk_cell Hx4.out 1
  have x2 := blk_cell Hx4.out 2
  have x3 := blk_cell Hx4.out 3
  simp only [List.getElem?_toArray, List.getElem?_cons_succ, List.getElem?_cons_zero] at x0 x1 x2 x3
  clear hb4 ho4 hc4 hr4
  go_wp2_with fail
  refine (putInt_calls _ _ X i _ HR34.out HC3.out Hi.out (by omega)).mono ?_; rintro e w5 ⟨v5, rfl, ho5, hb5⟩; obtain ⟨L5, hL5⟩ : ∃ L, L = X ++ num (zig i) := ⟨_, rfl⟩; rw [← hL5] at ho5; have HL5 := Lib.hid hL5; clear hL5; obtain ⟨A5, c5, rfl, hc5, hr5⟩ := ho5.slice
  have HB5 := Lib.hid (below_step HB4.out hb5)
  have HO5 := Lib.hid ho5
  have HO45 := Lib.hid (HO4.out.below hb5)
  have HR35 := Lib.hid (HR34.out.below hb5)
  clear x0 x1 x2 x3
  have Hx5 := Lib.hid (blk_below Hx4.out hb5)
  have x0 := blk_cell Hx5.out 0
  have x1 := blk_cell Hx5.out 1
  have x2 := blk_cell Hx5.out 2
  have x3 := blk_cell Hx5.out 3
  simp only [List.getElem?_toArray, List.getElem?_cons_succ, List.getElem?_cons_zero] at x0 x1 x2 x3
  clear hb5 ho5 hc5 hr5
  go_wp2_with fail
  refine (putText_calls _ _ X u _ HR35.out HC3.out (by omega) hX8).mono ?_; rintro e w6 ⟨v6, rfl, ho6, hb6⟩; obtain ⟨L6, hL6⟩ : ∃ L, L = X ++ (num u.size ++ bytesOf u) := ⟨_, rfl⟩; rw [← hL6] at ho6; have HL6 := Lib.hid hL6; clear hL6; obtain ⟨A6, c6, rfl, hc6, hr6⟩ := ho6.slice
  have HB6 := Lib.hid (below_step HB5.out hb6)
  have HO6 := Lib.hid ho6
  have HO46 := Lib.hid (HO45.out.below hb6)
  have HO56 := Lib.hid (HO5.out.below hb6)
  have HR36 := Lib.hid (HR35.out.below hb6)
  clear x0 x1 x2 x3
  have Hx6 := Lib.hid (blk_below Hx5.out hb6)
  have x0 := blk_cell Hx6.out 0
  have x1 := blk_cell Hx6.out 1
  have x2 := blk_cell Hx6.out 2
  have x3 := blk_cell Hx6.out 3
  simp only [List.getElem?_toArray, List.getElem?_cons_succ, List.getElem?_cons_zero] at x0 x1 x2 x3
  clear hb6 ho6 hc6 hr6
  go_wp2_with fail
  refine (putFixed_calls _ _ X n wd _ HR36.out HC3.out (by omega)).mono ?_; rintro e w7 ⟨v7, rfl, ho7, hb7⟩; obtain ⟨L7, hL7⟩ : ∃ L, L = X ++ fixW n wd := ⟨_, rfl⟩; rw [← hL7] at ho7; have HL7 := Lib.hid hL7; clear hL7; obtain ⟨A7, c7, rfl, hc7, hr7⟩ := ho7.slice
  have HB7 := Lib.hid (below_step HB6.out hb7)
  have HO7 := Lib.hid ho7
  have HO47 := Lib.hid (HO46.out.below hb7)
  have HO57 := Lib.hid (HO56.out.below hb7)
  have HO67 := Lib.hid (HO6.out.below hb7)
  have HR37 := Lib.hid (HR36.out.below hb7)
  clear x0 x1 x2 x3
  have Hx7 := Lib.hid (blk_below Hx6.out hb7)
  have x0 := blk_cell Hx7.out 0
  have x1 := blk_cell Hx7.out 1
  have x2 := blk_cell Hx7.out 2
  have x3 := blk_cell Hx7.out 3
  simp only [List.getElem?_toArray, List.getElem?_cons_succ, List.getElem?_cons_zero] at x0 x1 x2 x3
  clear hb7 ho7 hc7 hr7
  obtain ⟨R4, hR4⟩ : ∃ R, R = num n := ⟨_, rfl⟩
  obtain ⟨R5, hR5⟩ : ∃ R, R = num (zig i) := ⟨_, rfl⟩
  obtain ⟨R6, hR6⟩ : ∃ R, R = num u.size ++ bytesOf u := ⟨_, rfl⟩
  obtain ⟨R7, hR7⟩ : ∃ R, R = fixW n wd := ⟨_, rfl⟩
  have tl : ∀ R : List Int, t ++ strOfNums R = strOfNums (X ++ R) := fun R => by rw [BS.str_append_left, HX.out]
  have E4 : ((strOfNums L4).toList == (t ++ strOfNums R4).toList) = true := BS.beq_of (by rw [HL4.out, hR4, tl])
  have E5 : ((strOfNums L5).toList == (t ++ strOfNums R5).toList) = true := BS.beq_of (by rw [HL5.out, hR5, tl])
  have E6 : ((strOfNums L6).toList == (t ++ strOfNums R6).toList) = true := BS.beq_of (by rw [HL6.out, hR6, tl])
  have E7 : ((strOfNums L7).toList == (t ++ strOfNums R7).toList) = true := BS.beq_of (by rw [HL7.out, hR7, tl])
  have D4 := Lib.hid (fun W => refNum_calls n W Hn.out)
  have D5 := Lib.hid (fun W => refInt_calls i W Hi.out)
  have D6 := Lib.hid (fun W => refText_calls u W (by omega))
  have D7 := Lib.hid (fun W => refFixed_calls n wd W Hn.out)
  rw [← hR4] at D4
  rw [← hR5] at D5
  rw [← hR6] at D6
  rw [← hR7] at D7
  have Z4 : (strOfNums R4).size ≤ 3000 := by rw [BS.size_str, hR4]; have := num_le n; omega
  have Z5 : (strOfNums R5).size ≤ 3000 := by rw [BS.size_str, hR5]; have := num_le (zig i); omega
  have Z6 : (strOfNums R6).size ≤ 3000 := by rw [BS.size_str, hR6, List.length_append, bytesOf_length]; have := num_le u.size; omega
  have Z7 : (strOfNums R7).size ≤ 3000 := by rw [BS.size_str, hR7]; have := fixW_le n wd; omega
  have N4 : ¬ (9223372036854775807 < t.size + (strOfNums R4).size) := by omega
  have N5 : ¬ (9223372036854775807 < t.size + (strOfNums R5).size) := by omega
  have N6 : ¬ (9223372036854775807 < t.size + (strOfNums R6).size) := by omega
  have N7 : ¬ (9223372036854775807 < t.size + (strOfNums R7).size) := by omega
  have Ht := Lib.hid tl
  clear hR4 hR5 hR6 hR7 x0 x1 x2 x3 tl
  have K3 := Lib.hid (fun (W' : World) (hb : Below w7.heap.size w7 W') => (⟨hb, hcv (c := c4) (HO47.out.below hb).reads, hcv (c := c5) (HO57.out.below hb).reads, hcv (c := c6) (HO67.out.below hb).reads, hcv (c := c7) (HO7.out.below hb).reads, (blk_cell (blk_below Hx7.out hb) 0).trans rfl, (blk_cell (blk_below Hx7.out hb) 1).trans rfl, (blk_cell (blk_below Hx7.out hb) 3).trans rfl⟩ : Below w7.heap.size w7 W' ∧ (convert 26 9 (.slice (some ⟨g4, 0, none⟩) L4.length c4)).run Try.prog W' = .ok (.string (strOfNums L4)) W' ∧ (convert 26 9 (.slice A5 L5.length c5)).run Try.prog W' = .ok (.string (strOfNums L5)) W' ∧ (convert 26 9 (.slice A6 L6.length c6)).run Try.prog W' = .ok (.string (strOfNums L6)) W' ∧ (convert 26 9 (.slice A7 L7.length c7)).run Try.prog W' = .ok (.string (strOfNums L7)) W' ∧ W'.cell? ⟨w.heap.size, 0, none⟩ = some (.int .u64 (n : Int)) ∧ W'.cell? ⟨w.heap.size, 1, none⟩ = some (.int .i64 i) ∧ W'.cell? ⟨w.heap.size, 3, none⟩ = some (.int .i64 wd)))
  go_wp2_with fail
  refine start_ (n := 43) (S := fun w' => (convert 26 9 (.slice (some ⟨g4, 0, none⟩) L4.length c4)).run Try.prog w' = .ok (.string (strOfNums L4)) w' ∧ (convert 26 9 (.slice A5 L5.length c5)).run Try.prog w' = .ok (.string (strOfNums L5)) w' ∧ (convert 26 9 (.slice A6 L6.length c6)).run Try.prog w' = .ok (.string (strOfNums L6)) w' ∧ (convert 26 9 (.slice A7 L7.length c7)).run Try.prog w' = .ok (.string (strOfNums L7)) w' ∧ w'.cell? ⟨w.heap.size, 0, none⟩ = some (.int .u64 (n : Int)) ∧ w'.cell? ⟨w.heap.size, 1, none⟩ = some (.int .i64 i) ∧ w'.cell? ⟨w.heap.size, 3, none⟩ = some (.int .i64 wd)) (ds := []) #[false, false, false, false, false, false, false, false, false, false, false, false, false, false, false, false, false, false, false, false, false, false, false, false, false, false, false, false, false, false, false, false, false, false, false, false, false, false, false, false, false, false, false] (by kernel_rfl) rfl rfl ⟨(K3.out _ (below_drew (Below.refl _ _))).2.1, (K3.out _ (below_drew (Below.refl _ _))).2.2.1, (K3.out _ (below_drew (Below.refl _ _))).2.2.2.1, (K3.out _ (below_drew (Below.refl _ _))).2.2.2.2.1, (K3.out _ (below_drew (Below.refl _ _))).2.2.2.2.2.1, (K3.out _ (below_drew (Below.refl _ _))).2.2.2.2.2.2.1, (K3.out _ (below_drew (Below.refl _ _))).2.2.2.2.2.2.2⟩ (fun hHeld => ?_)
  refine pure_ (i := 0) (N := some 36) (v := ?_) (a' := ?_) #[true, false, false, false, false, false, false, false, false, false, false, false, false, false, false, false, false, false, false, false, false, false, false, false, false, false, false, false, false, false, false, false, false, false, false, false, false, false, false, false, false, false, false] rfl rfl (by kernel_rfl) (fun _ _ _ h => h) (Or.inl ⟨by rfl, ?_⟩) ?_ ?_
  rotate_left
  · intro w'
    go_simp
    with_reducible rfl
  rotate_left
  · simp only [Act.put, List.setIfInBounds_toArray, List.set_cons_zero, List.set_cons_succ, i64_w, i32_w]
    rfl
  refine pure_ (i := 2) (N := some 38) (v := ?_) (a' := ?_) #[true, false, true, false, false, false, false, false, false, false, false, false, false, false, false, false, false, false, false, false, false, false, false, false, false, false, false, false, false, false, false, false, false, false, false, false, false, false, false, false, false, false, false] rfl rfl (by kernel_rfl) (fun _ _ _ h => h) (Or.inl ⟨by rfl, ?_⟩) ?_ ?_
  rotate_left
  · intro w'
    go_simp
    with_reducible rfl
  rotate_left
  · simp only [Act.put, List.setIfInBounds_toArray, List.set_cons_zero, List.set_cons_succ, i64_w, i32_w]
    rfl
  refine pure_ (i := 3) (N := some 39) (v := ?_) (a' := ?_) #[true, false, true, true, false, false, false, false, false, false, false, false, false, false, false, false, false, false, false, false, false, false, false, false, false, false, false, false, false, false, false, false, false, false, false, false, false, false, false, false, false, false, false] rfl rfl (by kernel_rfl) (fun _ _ _ h => h) (Or.inl ⟨by rfl, ?_⟩) ?_ ?_
  rotate_left
  · intro w'
    go_simp
    with_reducible rfl
  rotate_left
  · simp only [Act.put, List.setIfInBounds_toArray, List.set_cons_zero, List.set_cons_succ, i64_w, i32_w]
    rfl
  refine take_ (i := 1) (N := some 37) (v := ?_) (a' := ?_) #[true, true, true, true, false, false, false, false, false, false, false, false, false, false, false, false, false, false, false, false, false, false, false, false, false, false, false, false, false, false, false, false, false, false, false, false, false, false, false, false, false, false, false] rfl rfl (by kernel_rfl) (fun _ _ _ h => h) (Or.inl ⟨by rfl, ?_⟩) hHeld ?_ ?_
  rotate_left
  · rintro w' ⟨s0, s1, s2, s3, s4, s5, s6⟩
    go_simp
    with_reducible rfl
  rotate_left
  · simp only [Act.put, List.setIfInBounds_toArray, List.set_cons_zero, List.set_cons_succ, i64_w, i32_w]
    rfl
  refine take_ (i := 4) (N := some 40) (v := ?_) (a' := ?_) #[true, true, true, true, true, false, false, false, false, false, false, false, false, false, false, false, false, false, false, false, false, false, false, false, false, false, false, false, false, false, false, false, false, false, false, false, false, false, false, false, false, false, false] rfl rfl (by kernel_rfl) (fun _ _ _ h => h) (Or.inl ⟨by rfl, ?_⟩) hHeld ?_ ?_
  rotate_left
  · rintro w' ⟨s0, s1, s2, s3, s4, s5, s6⟩
    go_simp
    with_reducible rfl
  rotate_left
  · simp only [Act.put, List.setIfInBounds_toArray, List.set_cons_zero, List.set_cons_succ, i64_w, i32_w]
    rfl
  refine one_ (i := 5) (N := some 41) #[true, true, true, true, true, true, false, false, false, false, false, false, false, false, false, false, false, false, false, false, false, false, false, false, false, false, false, false, false, false, false, false, false, false, false, false, false, false, false, false, false, false, false] rfl rfl (by kernel_rfl) (by decide) (fun K hK => ?_)
  refine goes_ Try.func15 (by kernel_rfl) rfl #[.int .u64 (n : Int)] (by rfl) rfl rfl (by simp only [List.map_toArray, List.map_cons, List.map_nil]; rfl) ?_
  with_reducible refine (D4.out _).mono ?_
  rintro e w8 ⟨v8, rfl, ho8, hb8⟩
  refine ⟨_, rfl, ?_⟩
  obtain ⟨A8, c8, rfl, hc8, hr8⟩ := ho8.slice
  have q8 := hcv (c := c8) hr8
  clear ho8 hc8 hr8
  have B8 := Lib.hid (below_step (below_drew (Below.refl _ w7)) hb8)
  clear hb8
  refine hK.out _ _ ⟨(K3.out _ B8.out).2.1, (K3.out _ B8.out).2.2.1, (K3.out _ B8.out).2.2.2.1, (K3.out _ B8.out).2.2.2.2.1, (K3.out _ B8.out).2.2.2.2.2.1, (K3.out _ B8.out).2.2.2.2.2.2.1, (K3.out _ B8.out).2.2.2.2.2.2.2⟩ (fun hHeld => ?_)
  clear hK K
  refine norm_ (a' := ?_) ?_ ?_
  rotate_left
  · show Act.put _ (some 41) _ = _
    simp only [Act.put, List.setIfInBounds_toArray, List.set_cons_zero, List.set_cons_succ, i64_w, i32_w]
    rfl
  refine one_ (i := 6) (N := some 42) #[true, true, true, true, true, true, true, false, false, false, false, false, false, false, false, false, false, false, false, false, false, false, false, false, false, false, false, false, false, false, false, false, false, false, false, false, false, false, false, false, false, false, false] rfl rfl (by kernel_rfl) (by decide) (fun K hK => ?_)
  refine value_ (w1 := ?_) (v := ?_) (by rfl) rfl ?_ ?_
  rotate_left 2
  · go_simp
    constructor
    · rfl
    · rfl
  refine hK.out _ _ ⟨(K3.out _ B8.out).2.1, (K3.out _ B8.out).2.2.1, (K3.out _ B8.out).2.2.2.1, (K3.out _ B8.out).2.2.2.2.1, (K3.out _ B8.out).2.2.2.2.2.1, (K3.out _ B8.out).2.2.2.2.2.2.1, (K3.out _ B8.out).2.2.2.2.2.2.2⟩ (fun hHeld => ?_)
  clear hK K
  refine norm_ (a' := ?_) ?_ ?_
  rotate_left
  · show Act.put _ (some 42) _ = _
    simp only [Act.put, List.setIfInBounds_toArray, List.set_cons_zero, List.set_cons_succ, i64_w, i32_w]
    rfl
  refine pure_ (i := 7) (N := some 43) (v := ?_) (a' := ?_) #[true, true, true, true, true, true, true, true, false, false, false, false, false, false, false, false, false, false, false, false, false, false, false, false, false, false, false, false, false, false, false, false, false, false, false, false, false, false, false, false, false, false, false] rfl rfl (by kernel_rfl) (fun _ _ _ h => h) (Or.inl ⟨by rfl, ?_⟩) ?_ ?_
  rotate_left
  · intro w'
    go_simp
    with_reducible rfl
  rotate_left
  · simp only [Act.put, List.setIfInBounds_toArray, List.set_cons_zero, List.set_cons_succ, i64_w, i32_w]
    rfl
  refine pure_ (i := 8) (N := some 44) (v := ?_) (a' := ?_) #[true, true, true, true, true, true, true, true, true, false, false, false, false, false, false, false, false, false, false, false, false, false, false, false, false, false, false, false, false, false, false, false, false, false, false, false, false, false, false, false, false, false, false] rfl rfl (by kernel_rfl) (fun _ _ _ h => h) (Or.inl ⟨by rfl, ?_⟩) ?_ ?_
  rotate_left
  · intro w'
    go_simp
    with_reducible rfl
  rotate_left
  · simp only [Act.put, List.setIfInBounds_toArray, List.set_cons_zero, List.set_cons_succ, i64_w, i32_w]
    rfl
  refine pure_ (i := 9) (N := some 45) (v := ?_) (a' := ?_) #[true, true, true, true, true, true, true, true, true, true, false, false, false, false, false, false, false, false, false, false, false, false, false, false, false, false, false, false, false, false, false, false, false, false, false, false, false, false, false, false, false, false, false] rfl rfl (by kernel_rfl) (fun _ _ _ h => h) (Or.inl ⟨by rfl, ?_⟩) ?_ ?_
  rotate_left
  · intro w'
    go_simp
    with_reducible rfl
  rotate_left
  · simp only [Act.put, List.setIfInBounds_toArray, List.set_cons_zero, List.set_cons_succ, i64_w, i32_w]
    rfl
  refine pure_ (i := 10) (N := some 46) (v := ?_) (a' := ?_) #[true, true, true, true, true, true, true, true, true, true, true, false, false, false, false, false, false, false, false, false, false, false, false, false, false, false, false, false, false, false, false, false, false, false, false, false, false, false, false, false, false, false, false] rfl rfl (by kernel_rfl) (fun _ _ _ h => h) (Or.inl ⟨by rfl, ?_⟩) ?_ ?_
  rotate_left
  · intro w'
    go_simp
    with_reducible rfl
  rotate_left
  · simp only [Act.put, List.setIfInBounds_toArray, List.set_cons_zero, List.set_cons_succ, i64_w, i32_w]
    rfl
  refine pure_ (i := 12) (N := some 48) (v := ?_) (a' := ?_) #[true, true, true, true, true, true, true, true, true, true, true, false, true, false, false, false, false, false, false, false, false, false, false, false, false, false, false, false, false, false, false, false, false, false, false, false, false, false, false, false, false, false, false] rfl rfl (by kernel_rfl) (fun _ _ _ h => h) (Or.inl ⟨by rfl, ?_⟩) ?_ ?_
  rotate_left
  · intro w'
    go_simp
    with_reducible rfl
  rotate_left
  · simp only [Act.put, List.setIfInBounds_toArray, List.set_cons_zero, List.set_cons_succ, i64_w, i32_w]
    rfl
  refine pure_ (i := 13) (N := some 49) (v := ?_) (a' := ?_) #[true, true, true, true, true, true, true, true, true, true, true, false, true, true, false, false, false, false, false, false, false, false, false, false, false, false, false, false, false, false, false, false, false, false, false, false, false, false, false, false, false, false, false] rfl rfl (by kernel_rfl) (fun _ _ _ h => h) (Or.inl ⟨by rfl, ?_⟩) ?_ ?_
  rotate_left
  · intro w'
    go_simp
    with_reducible rfl
  rotate_left
  · simp only [Act.put, List.setIfInBounds_toArray, List.set_cons_zero, List.set_cons_succ, i64_w, i32_w]
    rfl
  refine take_ (i := 11) (N := some 47) (v := ?_) (a' := ?_) #[true, true, true, true, true, true, true, true, true, true, true, true, true, true, false, false, false, false, false, false, false, false, false, false, false, false, false, false, false, false, false, false, false, false, false, false, false, false, false, false, false, false, false] rfl rfl (by kernel_rfl) (fun _ _ _ h => h) (Or.inl ⟨by rfl, ?_⟩) hHeld ?_ ?_
  rotate_left
  · rintro w' ⟨s0, s1, s2, s3, s4, s5, s6⟩
    go_simp
    with_reducible rfl
  rotate_left
  · simp only [Act.put, List.setIfInBounds_toArray, List.set_cons_zero, List.set_cons_succ, i64_w, i32_w]
    rfl
  refine take_ (i := 14) (N := some 50) (v := ?_) (a' := ?_) #[true, true, true, true, true, true, true, true, true, true, true, true, true, true, true, false, false, false, false, false, false, false, false, false, false, false, false, false, false, false, false, false, false, false, false, false, false, false, false, false, false, false, false] rfl rfl (by kernel_rfl) (fun _ _ _ h => h) (Or.inl ⟨by rfl, ?_⟩) hHeld ?_ ?_
  rotate_left
  · rintro w' ⟨s0, s1, s2, s3, s4, s5, s6⟩
    go_simp
    with_reducible rfl
  rotate_left
  · simp only [Act.put, List.setIfInBounds_toArray, List.set_cons_zero, List.set_cons_succ, i64_w, i32_w]
    rfl
  refine one_ (i := 15) (N := some 51) #[true, true, true, true, true, true, true, true, true, true, true, true, true, true, true, true, false, false, false, false, false, false, false, false, false, false, false, false, false, false, false, false, false, false, false, false, false, false, false, false, false, false, false] rfl rfl (by kernel_rfl) (by decide) (fun K hK => ?_)
  refine goes_ Try.func16 (by kernel_rfl) rfl #[.int .i64 i] (by rfl) rfl rfl (by simp only [List.map_toArray, List.map_cons, List.map_nil]; rfl) ?_
  with_reducible refine (D5.out _).mono ?_
  rintro e w9 ⟨v9, rfl, ho9, hb9⟩
  refine ⟨_, rfl, ?_⟩
  obtain ⟨A9, c9, rfl, hc9, hr9⟩ := ho9.slice
  have q9 := hcv (c := c9) hr9
  clear ho9 hc9 hr9
  have B9 := Lib.hid (below_step B8.out hb9)
  clear hb9
  refine hK.out _ _ ⟨(K3.out _ B9.out).2.1, (K3.out _ B9.out).2.2.1, (K3.out _ B9.out).2.2.2.1, (K3.out _ B9.out).2.2.2.2.1, (K3.out _ B9.out).2.2.2.2.2.1, (K3.out _ B9.out).2.2.2.2.2.2.1, (K3.out _ B9.out).2.2.2.2.2.2.2⟩ (fun hHeld => ?_)
  clear hK K
  refine norm_ (a' := ?_) ?_ ?_
  rotate_left
  · show Act.put _ (some 51) _ = _
    simp only [Act.put, List.setIfInBounds_toArray, List.set_cons_zero, List.set_cons_succ, i64_w, i32_w]
    rfl
  refine one_ (i := 16) (N := some 52) #[true, true, true, true, true, true, true, true, true, true, true, true, true, true, true, true, true, false, false, false, false, false, false, false, false, false, false, false, false, false, false, false, false, false, false, false, false, false, false, false, false, false, false] rfl rfl (by kernel_rfl) (by decide) (fun K hK => ?_)
  refine value_ (w1 := ?_) (v := ?_) (by rfl) rfl ?_ ?_
  rotate_left 2
  · go_simp
    constructor
    · rfl
    · rfl
  refine hK.out _ _ ⟨(K3.out _ B9.out).2.1, (K3.out _ B9.out).2.2.1, (K3.out _ B9.out).2.2.2.1, (K3.out _ B9.out).2.2.2.2.1, (K3.out _ B9.out).2.2.2.2.2.1, (K3.out _ B9.out).2.2.2.2.2.2.1, (K3.out _ B9.out).2.2.2.2.2.2.2⟩ (fun hHeld => ?_)
  clear hK K
  refine norm_ (a' := ?_) ?_ ?_
  rotate_left
  · show Act.put _ (some 52) _ = _
    simp only [Act.put, List.setIfInBounds_toArray, List.set_cons_zero, List.set_cons_succ, i64_w, i32_w]
    rfl
  refine pure_ (i := 17) (N := some 53) (v := ?_) (a' := ?_) #[true, true, true, true, true, true, true, true, true, true, true, true, true, true, true, true, true, true, false, false, false, false, false, false, false, false, false, false, false, false, false, false, false, false, false, false, false, false, false, false, false, false, false] rfl rfl (by kernel_rfl) (fun _ _ _ h => h) (Or.inl ⟨by rfl, ?_⟩) ?_ ?_
  rotate_left
  · intro w'
    go_simp
    with_reducible rfl
  rotate_left
  · simp only [Act.put, List.setIfInBounds_toArray, List.set_cons_zero, List.set_cons_succ, i64_w, i32_w]
    rfl
  refine pure_ (i := 18) (N := some 54) (v := ?_) (a' := ?_) #[true, true, true, true, true, true, true, true, true, true, true, true, true, true, true, true, true, true, true, false, false, false, false, false, false, false, false, false, false, false, false, false, false, false, false, false, false, false, false, false, false, false, false] rfl rfl (by kernel_rfl) (fun _ _ _ h => h) (Or.inl ⟨by rfl, ?_⟩) ?_ ?_
  rotate_left
  · intro w'
    go_simp
    with_reducible rfl
  rotate_left
  · simp only [Act.put, List.setIfInBounds_toArray, List.set_cons_zero, List.set_cons_succ, i64_w, i32_w]
    rfl
  refine pure_ (i := 19) (N := some 55) (v := ?_) (a' := ?_) #[true, true, true, true, true, true, true, true, true, true, true, true, true, true, true, true, true, true, true, true, false, false, false, false, false, false, false, false, false, false, false, false, false, false, false, false, false, false, false, false, false, false, false] rfl rfl (by kernel_rfl) (fun _ _ _ h => h) (Or.inl ⟨by rfl, ?_⟩) ?_ ?_
  rotate_left
  · intro w'
    go_simp
    with_reducible rfl
  rotate_left
  · simp only [Act.put, List.setIfInBounds_toArray, List.set_cons_zero, List.set_cons_succ, i64_w, i32_w]
    rfl
  refine pure_ (i := 20) (N := some 56) (v := ?_) (a' := ?_) #[true, true, true, true, true, true, true, true, true, true, true, true, true, true, true, true, true, true, true, true, true, false, false, false, false, false, false, false, false, false, false, false, false, false, false, false, false, false, false, false, false, false, false] rfl rfl (by kernel_rfl) (fun _ _ _ h => h) (Or.inl ⟨by rfl, ?_⟩) ?_ ?_
  rotate_left
  · intro w'
    go_simp
    with_reducible rfl
  rotate_left
  · simp only [Act.put, List.setIfInBounds_toArray, List.set_cons_zero, List.set_cons_succ, i64_w, i32_w]
    rfl
  refine pure_ (i := 21) (N := some 57) (v := ?_) (a' := ?_) #[true, true, true, true, true, true, true, true, true, true, true, true, true, true, true, true, true, true, true, true, true, true, false, false, false, false, false, false, false, false, false, false, false, false, false, false, false, false, false, false, false, false, false] rfl rfl (by kernel_rfl) (fun _ _ _ h => h) (Or.inl ⟨by rfl, ?_⟩) ?_ ?_
  rotate_left
  · intro w'
    go_simp
    with_reducible rfl
  rotate_left
  · simp only [Act.put, List.setIfInBounds_toArray, List.set_cons_zero, List.set_cons_succ, i64_w, i32_w]
    rfl
  refine pure_ (i := 23) (N := some 59) (v := ?_) (a' := ?_) #[true, true, true, true, true, true, true, true, true, true, true, true, true, true, true, true, true, true, true, true, true, true, false, true, false, false, false, false, false, false, false, false, false, false, false, false, false, false, false, false, false, false, false] rfl rfl (by kernel_rfl) (fun _ _ _ h => h) (Or.inl ⟨by rfl, ?_⟩) ?_ ?_
  rotate_left
  · intro w'
    go_simp
    with_reducible rfl
  rotate_left
  · simp only [Act.put, List.setIfInBounds_toArray, List.set_cons_zero, List.set_cons_succ, i64_w, i32_w]
    rfl
  refine pure_ (i := 24) (N := some 60) (v := ?_) (a' := ?_) #[true, true, true, true, true, true, true, true, true, true, true, true, true, true, true, true, true, true, true, true, true, true, false, true, true, false, false, false, false, false, false, false, false, false, false, false, false, false, false, false, false, false, false] rfl rfl (by kernel_rfl) (fun _ _ _ h => h) (Or.inl ⟨by rfl, ?_⟩) ?_ ?_
  rotate_left
  · intro w'
    go_simp
    with_reducible rfl
  rotate_left
  · simp only [Act.put, List.setIfInBounds_toArray, List.set_cons_zero, List.set_cons_succ, i64_w, i32_w]
    rfl
  refine take_ (i := 22) (N := some 58) (v := ?_) (a' := ?_) #[true, true, true, true, true, true, true, true, true, true, true, true, true, true, true, true, true, true, true, true, true, true, true, true, true, false, false, false, false, false, false, false, false, false, false, false, false, false, false, false, false, false, false] rfl rfl (by kernel_rfl) (fun _ _ _ h => h) (Or.inl ⟨by rfl, ?_⟩) hHeld ?_ ?_
  rotate_left
  · rintro w' ⟨s0, s1, s2, s3, s4, s5, s6⟩
    go_simp
    with_reducible rfl
  rotate_left
  · simp only [Act.put, List.setIfInBounds_toArray, List.set_cons_zero, List.set_cons_succ, i64_w, i32_w]
    rfl
  refine one_ (i := 25) (N := some 61) #[true, true, true, true, true, true, true, true, true, true, true, true, true, true, true, true, true, true, true, true, true, true, true, true, true, true, false, false, false, false, false, false, false, false, false, false, false, false, false, false, false, false, false] rfl rfl (by kernel_rfl) (by decide) (fun K hK => ?_)
  refine goes_ Try.func17 (by kernel_rfl) rfl #[.string u] (by rfl) rfl rfl (by simp only [List.map_toArray, List.map_cons, List.map_nil]; rfl) ?_
  with_reducible refine (D6.out _).mono ?_
  rintro e w10 ⟨v10, rfl, ho10, hb10⟩
  refine ⟨_, rfl, ?_⟩
  obtain ⟨A10, c10, rfl, hc10, hr10⟩ := ho10.slice
  have q10 := hcv (c := c10) hr10
  clear ho10 hc10 hr10
  have B10 := Lib.hid (below_step B9.out hb10)
  clear hb10
  refine hK.out _ _ ⟨(K3.out _ B10.out).2.1, (K3.out _ B10.out).2.2.1, (K3.out _ B10.out).2.2.2.1, (K3.out _ B10.out).2.2.2.2.1, (K3.out _ B10.out).2.2.2.2.2.1, (K3.out _ B10.out).2.2.2.2.2.2.1, (K3.out _ B10.out).2.2.2.2.2.2.2⟩ (fun hHeld => ?_)
  clear hK K
  refine norm_ (a' := ?_) ?_ ?_
  rotate_left
  · show Act.put _ (some 61) _ = _
    simp only [Act.put, List.setIfInBounds_toArray, List.set_cons_zero, List.set_cons_succ, i64_w, i32_w]
    rfl
  refine one_ (i := 26) (N := some 62) #[true, true, true, true, true, true, true, true, true, true, true, true, true, true, true, true, true, true, true, true, true, true, true, true, true, true, true, false, false, false, false, false, false, false, false, false, false, false, false, false, false, false, false] rfl rfl (by kernel_rfl) (by decide) (fun K hK => ?_)
  refine value_ (w1 := ?_) (v := ?_) (by rfl) rfl ?_ ?_
  rotate_left 2
  · go_simp
    constructor
    · rfl
    · rfl
  refine hK.out _ _ ⟨(K3.out _ B10.out).2.1, (K3.out _ B10.out).2.2.1, (K3.out _ B10.out).2.2.2.1, (K3.out _ B10.out).2.2.2.2.1, (K3.out _ B10.out).2.2.2.2.2.1, (K3.out _ B10.out).2.2.2.2.2.2.1, (K3.out _ B10.out).2.2.2.2.2.2.2⟩ (fun hHeld => ?_)
  clear hK K
  refine norm_ (a' := ?_) ?_ ?_
  rotate_left
  · show Act.put _ (some 62) _ = _
    simp only [Act.put, List.setIfInBounds_toArray, List.set_cons_zero, List.set_cons_succ, i64_w, i32_w]
    rfl
  refine pure_ (i := 27) (N := some 63) (v := ?_) (a' := ?_) #[true, true, true, true, true, true, true, true, true, true, true, true, true, true, true, true, true, true, true, true, true, true, true, true, true, true, true, true, false, false, false, false, false, false, false, false, false, false, false, false, false, false, false] rfl rfl (by kernel_rfl) (fun _ _ _ h => h) (Or.inl ⟨by rfl, ?_⟩) ?_ ?_
  rotate_left
  · intro w'
    go_simp
    with_reducible rfl
  rotate_left
  · simp only [Act.put, List.setIfInBounds_toArray, List.set_cons_zero, List.set_cons_succ, i64_w, i32_w]
    rfl
  refine pure_ (i := 28) (N := some 64) (v := ?_) (a' := ?_) #[true, true, true, true, true, true, true, true, true, true, true, true, true, true, true, true, true, true, true, true, true, true, true, true, true, true, true, true, true, false, false, false, false, false, false, false, false, false, false, false, false, false, false] rfl rfl (by kernel_rfl) (fun _ _ _ h => h) (Or.inl ⟨by rfl, ?_⟩) ?_ ?_
  rotate_left
  · intro w'
    go_simp
    with_reducible rfl
  rotate_left
  · simp only [Act.put, List.setIfInBounds_toArray, List.set_cons_zero, List.set_cons_succ, i64_w, i32_w]
    rfl
  refine pure_ (i := 29) (N := some 65) (v := ?_) (a' := ?_) #[true, true, true, true, true, true, true, true, true, true, true, true, true, true, true, true, true, true, true, true, true, true, true, true, true, true, true, true, true, true, false, false, false, false, false, false, false, false, false, false, false, false, false] rfl rfl (by kernel_rfl) (fun _ _ _ h => h) (Or.inl ⟨by rfl, ?_⟩) ?_ ?_
  rotate_left
  · intro w'
    go_simp
    with_reducible rfl
  rotate_left
  · simp only [Act.put, List.setIfInBounds_toArray, List.set_cons_zero, List.set_cons_succ, i64_w, i32_w]
    rfl
  refine pure_ (i := 30) (N := some 66) (v := ?_) (a' := ?_) #[true, true, true, true, true, true, true, true, true, true, true, true, true, true, true, true, true, true, true, true, true, true, true, true, true, true, true, true, true, true, true, false, false, false, false, false, false, false, false, false, false, false, false] rfl rfl (by kernel_rfl) (fun _ _ _ h => h) (Or.inl ⟨by rfl, ?_⟩) ?_ ?_
  rotate_left
  · intro w'
    go_simp
    with_reducible rfl
  rotate_left
  · simp only [Act.put, List.setIfInBounds_toArray, List.set_cons_zero, List.set_cons_succ, i64_w, i32_w]
    rfl
  refine pure_ (i := 31) (N := some 67) (v := ?_) (a' := ?_) #[true, true, true, true, true, true, true, true, true, true, true, true, true, true, true, true, true, true, true, true, true, true, true, true, true, true, true, true, true, true, true, true, false, false, false, false, false, false, false, false, false, false, false] rfl rfl (by kernel_rfl) (fun _ _ _ h => h) (Or.inl ⟨by rfl, ?_⟩) ?_ ?_
  rotate_left
  · intro w'
    go_simp
    with_reducible rfl
  rotate_left
  · simp only [Act.put, List.setIfInBounds_toArray, List.set_cons_zero, List.set_cons_succ, i64_w, i32_w]
    rfl
  refine pure_ (i := 33) (N := some 69) (v := ?_) (a' := ?_) #[true, true, true, true, true, true, true, true, true, true, true, true, true, true, true, true, true, true, true, true, true, true, true, true, true, true, true, true, true, true, true, true, false, true, false, false, false, false, false, false, false, false, false] rfl rfl (by kernel_rfl) (fun _ _ _ h => h) (Or.inl ⟨by rfl, ?_⟩) ?_ ?_
  rotate_left
  · intro w'
    go_simp
    with_reducible rfl
  rotate_left
  · simp only [Act.put, List.setIfInBounds_toArray, List.set_cons_zero, List.set_cons_succ, i64_w, i32_w]
    rfl
  refine pure_ (i := 34) (N := some 70) (v := ?_) (a' := ?_) #[true, true, true, true, true, true, true, true, true, true, true, true, true, true, true, true, true, true, true, true, true, true, true, true, true, true, true, true, true, true, true, true, false, true, true, false, false, false, false, false, false, false, false] rfl rfl (by kernel_rfl) (fun _ _ _ h => h) (Or.inl ⟨by rfl, ?_⟩) ?_ ?_
  rotate_left
  · intro w'
    go_simp
    with_reducible rfl
  rotate_left
  · simp only [Act.put, List.setIfInBounds_toArray, List.set_cons_zero, List.set_cons_succ, i64_w, i32_w]
    rfl
  refine pure_ (i := 36) (N := some 72) (v := ?_) (a' := ?_) #[true, true, true, true, true, true, true, true, true, true, true, true, true, true, true, true, true, true, true, true, true, true, true, true, true, true, true, true, true, true, true, true, false, true, true, false, true, false, false, false, false, false, false] rfl rfl (by kernel_rfl) (fun _ _ _ h => h) (Or.inl ⟨by rfl, ?_⟩) ?_ ?_
  rotate_left
  · intro w'
    go_simp
    with_reducible rfl
  rotate_left
  · simp only [Act.put, List.setIfInBounds_toArray, List.set_cons_zero, List.set_cons_succ, i64_w, i32_w]
    rfl
  refine take_ (i := 32) (N := some 68) (v := ?_) (a' := ?_) #[true, true, true, true, true, true, true, true, true, true, true, true, true, true, true, true, true, true, true, true, true, true, true, true, true, true, true, true, true, true, true, true, true, true, true, false, true, false, false, false, false, false, false] rfl rfl (by kernel_rfl) (fun _ _ _ h => h) (Or.inl ⟨by rfl, ?_⟩) hHeld ?_ ?_
  rotate_left
  · rintro w' ⟨s0, s1, s2, s3, s4, s5, s6⟩
    go_simp
    with_reducible rfl
  rotate_left
  · simp only [Act.put, List.setIfInBounds_toArray, List.set_cons_zero, List.set_cons_succ, i64_w, i32_w]
    rfl
  refine take_ (i := 35) (N := some 71) (v := ?_) (a' := ?_) #[true, true, true, true, true, true, true, true, true, true, true, true, true, true, true, true, true, true, true, true, true, true, true, true, true, true, true, true, true, true, true, true, true, true, true, true, true, false, false, false, false, false, false] rfl rfl (by kernel_rfl) (fun _ _ _ h => h) (Or.inl ⟨by rfl, ?_⟩) hHeld ?_ ?_
  rotate_left
  · rintro w' ⟨s0, s1, s2, s3, s4, s5, s6⟩
    go_simp
    with_reducible rfl
  rotate_left
  · simp only [Act.put, List.setIfInBounds_toArray, List.set_cons_zero, List.set_cons_succ, i64_w, i32_w]
    rfl
  refine take_ (i := 37) (N := some 73) (v := ?_) (a' := ?_) #[true, true, true, true, true, true, true, true, true, true, true, true, true, true, true, true, true, true, true, true, true, true, true, true, true, true, true, true, true, true, true, true, true, true, true, true, true, true, false, false, false, false, false] rfl rfl (by kernel_rfl) (fun _ _ _ h => h) (Or.inl ⟨by rfl, ?_⟩) hHeld ?_ ?_
  rotate_left
  · rintro w' ⟨s0, s1, s2, s3, s4, s5, s6⟩
    go_simp
    with_reducible rfl
  rotate_left
  · simp only [Act.put, List.setIfInBounds_toArray, List.set_cons_zero, List.set_cons_succ, i64_w, i32_w]
    rfl
  refine one_ (i := 38) (N := some 74) #[true, true, true, true, true, true, true, true, true, true, true, true, true, true, true, true, true, true, true, true, true, true, true, true, true, true, true, true, true, true, true, true, true, true, true, true, true, true, true, false, false, false, false] rfl rfl (by kernel_rfl) (by decide) (fun K hK => ?_)
  refine goes_ Try.func18 (by kernel_rfl) rfl #[.int .u64 (n : Int), .int .i64 wd] (by rfl) rfl rfl (by simp only [List.map_toArray, List.map_cons, List.map_nil]; rfl) ?_
  with_reducible refine (D7.out _).mono ?_
  rintro e w11 ⟨v11, rfl, ho11, hb11⟩
  refine ⟨_, rfl, ?_⟩
  obtain ⟨A11, c11, rfl, hc11, hr11⟩ := ho11.slice
  have q11 := hcv (c := c11) hr11
  clear ho11 hc11 hr11
  have B11 := Lib.hid (below_step B10.out hb11)
  clear hb11
  refine hK.out _ _ ⟨(K3.out _ B11.out).2.1, (K3.out _ B11.out).2.2.1, (K3.out _ B11.out).2.2.2.1, (K3.out _ B11.out).2.2.2.2.1, (K3.out _ B11.out).2.2.2.2.2.1, (K3.out _ B11.out).2.2.2.2.2.2.1, (K3.out _ B11.out).2.2.2.2.2.2.2⟩ (fun hHeld => ?_)
  clear hK K
  refine norm_ (a' := ?_) ?_ ?_
  rotate_left
  · show Act.put _ (some 74) _ = _
    simp only [Act.put, List.setIfInBounds_toArray, List.set_cons_zero, List.set_cons_succ, i64_w, i32_w]
    rfl
  refine one_ (i := 39) (N := some 75) #[true, true, true, true, true, true, true, true, true, true, true, true, true, true, true, true, true, true, true, true, true, true, true, true, true, true, true, true, true, true, true, true, true, true, true, true, true, true, true, true, false, false, false] rfl rfl (by kernel_rfl) (by decide) (fun K hK => ?_)
  refine value_ (w1 := ?_) (v := ?_) (by rfl) rfl ?_ ?_
  rotate_left 2
  · go_simp
    constructor
    · rfl
    · rfl
  refine hK.out _ _ ⟨(K3.out _ B11.out).2.1, (K3.out _ B11.out).2.2.1, (K3.out _ B11.out).2.2.2.1, (K3.out _ B11.out).2.2.2.2.1, (K3.out _ B11.out).2.2.2.2.2.1, (K3.out _ B11.out).2.2.2.2.2.2.1, (K3.out _ B11.out).2.2.2.2.2.2.2⟩ (fun hHeld => ?_)
  clear hK K
  refine norm_ (a' := ?_) ?_ ?_
  rotate_left
  · show Act.put _ (some 75) _ = _
    simp only [Act.put, List.setIfInBounds_toArray, List.set_cons_zero, List.set_cons_succ, i64_w, i32_w]
    rfl
  refine pure_ (i := 40) (N := some 76) (v := ?_) (a' := ?_) #[true, true, true, true, true, true, true, true, true, true, true, true, true, true, true, true, true, true, true, true, true, true, true, true, true, true, true, true, true, true, true, true, true, true, true, true, true, true, true, true, true, false, false] rfl rfl (by kernel_rfl) (fun _ _ _ h => h) (Or.inl ⟨by rfl, ?_⟩) ?_ ?_
  rotate_left
  · intro w'
    go_simp
    with_reducible rfl
  rotate_left
  · simp only [Act.put, List.setIfInBounds_toArray, List.set_cons_zero, List.set_cons_succ, i64_w, i32_w]
    rfl
  refine pure_ (i := 41) (N := some 77) (v := ?_) (a' := ?_) #[true, true, true, true, true, true, true, true, true, true, true, true, true, true, true, true, true, true, true, true, true, true, true, true, true, true, true, true, true, true, true, true, true, true, true, true, true, true, true, true, true, true, false] rfl rfl (by kernel_rfl) (fun _ _ _ h => h) (Or.inl ⟨by rfl, ?_⟩) ?_ ?_
  rotate_left
  · intro w'
    go_simp
    with_reducible rfl
  rotate_left
  · simp only [Act.put, List.setIfInBounds_toArray, List.set_cons_zero, List.set_cons_succ, i64_w, i32_w]
    rfl
  refine pure_ (i := 42) (N := some 78) (v := ?_) (a' := ?_) #[true, true, true, true, true, true, true, true, true, true, true, true, true, true, true, true, true, true, true, true, true, true, true, true, true, true, true, true, true, true, true, true, true, true, true, true, true, true, true, true, true, true, true] rfl rfl (by kernel_rfl) (fun _ _ _ h => h) (Or.inl ⟨by rfl, ?_⟩) ?_ ?_
  rotate_left
  · intro w'
    go_simp
    with_reducible rfl
  rotate_left
  · simp only [Act.put, List.setIfInBounds_toArray, List.set_cons_zero, List.set_cons_succ, i64_w, i32_w]
    rfl
  refine done_ (by kernel_rfl) ?_

  clear hHeld
  have hbX := HB7.out
  have HBn := Lib.hid (below_step HB7.out B11.out)
  have HOn := Lib.hid (HO47.out.below B11.out)
  have HRn := Lib.hid (HR37.out.below B11.out)
  have hk8 : L4.length < 140737488355000 := by rw [HL4.out, List.length_append]; have := num_le n; omega
  have hgw : w2.heap.size < g4 := by have := HG4.out; rw [bw_size w2 t] at this; omega
  have hgg : w.heap.size ≤ g4 := by have := HB3.out.size; rw [bw_size w2 t] at this; omega
  have EX : ((strOfNums X).toList == t.toList) = true := BS.beq_of (by rw [HX.out, BS.str_bytesOf])
  clear E4 E5 E6 E7 Z4 Z5 Z6 Z7 N4 N5 N6 N7 htl hul hX8 kb q8 q9 q10 q11
  go_wp2
  go_loopw [11] (fun iv W => ∃ j : Nat, j ≤ L4.length ∧ iv = .int .i64 (j : Int) ∧ Aside0 (∃ l, l.length = L4.length ∧ OB W (bw w2 t).heap.size (.slice (some ⟨g4, 0, none⟩) l.length c4) l) ∧ Aside0 (w11.grownBy W (some g4))) (fun iv _ => L4.length - (intOf iv).toNat)
  case atStart => exact ⟨0, by omega, rfl, ⟨⟨L4, rfl, HOn.out⟩⟩, ⟨World.grownBy.refl _ _⟩⟩
  case round =>
    obtain ⟨j, hj, rfl, ⟨⟨l, hl, ho⟩⟩, ⟨hg⟩⟩ := hrel
    have Hl := Lib.hid hl
    have Ho := Lib.hid ho
    have Hgr := Lib.hid hg
    by_cases hlt : j < L4.length
    · obtain ⟨x0, f0⟩ := OB.at_ ho j (by omega)
      have hlen : (j : Int) < (L4.length : Int) := by omega
      clear hl ho hg
      go_wp2
      go_roundw
      case rel => exact ⟨j + 1, by omega, by go_num, ⟨⟨l.set j 77, by rw [List.length_set]; exact Hl.out, OB.store Ho.out j 77⟩⟩, ⟨gset Hgr.out _ _⟩⟩
      case measure => simp [intOf]; omega
    · obtain rfl : j = L4.length := by omega
      have HBz := Lib.hid (belowg HBn.out hg HBn.out.size hgg)
      have HRz := Lib.hid (reads_grown HRn.out hg (by intro ad he _; injection he with he; subst he; show w2.heap.size ≠ g4; omega))
      have kz := hcv (c := grownCap w2 X.length 0 5) HRz.out
      clear hl ho hg
      go_wp2_with fail
      refine (works_calls _).mono ?_; rintro e w12 ⟨rfl, hb12⟩
      have HB12 := Lib.hid (below_step HBz.out hb12)
      clear hb12
      go_wp2
      go_ret
      exact ⟨rfl, HB12.out⟩
theorem layWalk (a0 : ByteArray) (a1 a2 : Int) (a3 : ByteArray) (a4 : Int) (w : World) (h0 : a0.size ≤ 140737488351232) (h1 : (Lit.int .u64 a1).wf = true) (h2 : (Lit.int .i64 a2).wf = true) (h3 : a3.size ≤ maxLen) (h4 : (Lit.int .i64 a4).wf = true) :
    Calls Try.prog 3 #[.string a0, .agg #[.int .u64 a1, .int .i64 a2, .string a3, .int .i64 a4]] w fun e w' => e = .returned (.bool true) ∧ Below w.heap.size w w' := by
  have b1 : (0 : Int) ≤ a1 ∧ a1 ≤ 18446744073709551615 := (Lit.wf_int_iff .u64 a1).mp h1
  have b2 : (-9223372036854775808 : Int) ≤ a2 ∧ a2 ≤ 9223372036854775807 := (Lit.wf_int_iff .i64 a2).mp h2
  obtain ⟨n, rfl⟩ : ∃ n : Nat, a1 = (n : Int) := ⟨a1.toNat, by omega⟩
  exact layLaw a0 n a2 a3 a4 w (by omega) ⟨by omega, by omega⟩
end Go.Proofs.Ythgahepldlicbaa.BP
