/- RegionBack: a spot is told by its region and its place there, and by no others. -/
import Derived.Test.YtijjecnmdhefbaaRPlace
import Derived.DataShut
import Derived.Deep.Fields
import Derived.ChangeSame
namespace Go.Proofs.Ytijjecnmdhefbaa.RG
open Go.ChangeShapes Go.WideShapes Go.Deep Go.RowKit Go.Proofs.YtijjecnmdhefbaaW.PrintWords Go.Proofs.YtijjecnmdhefbaaW.PrintLast Go.Proofs.YtijjecnmdhefbaaW.PrintMore Go.Proofs.Ytijjecnmdhefbaa.CD Go.Proofs.Ytijjecnmdhefbaa.BR Go.Proofs.Ytijjecnmdhefbaa.BP
set_option linter.unusedVariables false
set_option linter.unusedSimpArgs false
theorem of_back (x y z : Int) (h : inS x y z = true) : backS (x / 16) (z / 16) (z % 16 * 64 + x % 16 * 4 + y) = (x, y, z, true) ∧ 0 ≤ z % 16 * 64 + x % 16 * 4 + y ∧ z % 16 * 64 + x % 16 * 4 + y ≤ 1023 := by
  have hr := of_decide_eq_true h
  refine ⟨?_, by omega, by omega⟩
  unfold backS
  rw [if_pos (by omega)]
  simp only [Prod.mk.injEq, and_true]
  omega
theorem back_of (b c a : Int) (h : (-4096 ≤ b ∧ b ≤ 4095) ∧ (-4096 ≤ c ∧ c ≤ 4095) ∧ 0 ≤ a ∧ a ≤ 1023) : ofS (b * 16 + a / 4 % 16) (a % 4) (c * 16 + a / 64) = (b, c, a, true) := by
  unfold ofS
  have hi : inS (b * 16 + a / 4 % 16) (a % 4) (c * 16 + a / 64) = true := decide_eq_true (by omega)
  rw [if_pos hi]
  simp only [Prod.mk.injEq, and_true]
  omega
set_option maxHeartbeats 1000000 in
set_option maxRecDepth 100000 in
theorem backLawTT (x y z b c a : Int) (w : World) (hA : inS x y z = true) (hB : ((-4096 ≤ b ∧ b ≤ 4095) ∧ (-4096 ≤ c ∧ c ≤ 4095) ∧ 0 ≤ a ∧ a ≤ 1023)) :
    Calls Try.prog 4 #[.agg #[.int .i64 x, .int .i64 y, .int .i64 z, .int .i64 b, .int .i64 c, .int .i64 a]] w fun e w' => e = .returned (.bool true) ∧ Below w.heap.size w w' := by
  obtain ⟨o1, o2, o3, ho, hbk, k0, k1⟩ : ∃ o1 o2 o3, ofS x y z = (o1, o2, o3, true) ∧ backS o1 o2 o3 = (x, y, z, true) ∧ 0 ≤ o3 ∧ o3 ≤ 1023 := by
    have h := of_back x y z hA
    exact ⟨_, _, _, by unfold ofS; rw [if_pos hA], h.1, h.2.1, h.2.2⟩
  have C1 := Lib.hid (fun W => PRegionPlaces.region_Of.calls x y z o1 o2 o3 true W ((of_f x y z).trans (by rw [ho])))
  have C2 := Lib.hid (fun W => PRegionPlaces.region_Back.calls o1 o2 o3 x y z true W ((back_f o1 o2 o3).trans (by rw [hbk])))
  clear ho hbk hA
  obtain ⟨p1, p2, p3, hp, hof⟩ : ∃ p1 p2 p3, backS b c a = (p1, p2, p3, true) ∧ ofS p1 p2 p3 = (b, c, a, true) := ⟨_, _, _, by unfold backS; rw [if_pos hB], back_of b c a hB⟩
  have C3 := Lib.hid (fun W => PRegionPlaces.region_Back.calls b c a p1 p2 p3 true W ((back_f b c a).trans (by rw [hp])))
  have C4 := Lib.hid (fun W => PRegionPlaces.region_Of.calls p1 p2 p3 b c a true W ((of_f p1 p2 p3).trans (by rw [hof])))
  clear hp hof hB
  have Hx0 := Lib.hid (blk_new w (.cells #[.int .i64 x, .int .i64 y, .int .i64 z, .int .i64 b, .int .i64 c, .int .i64 a] 31))
  go_enter Try.func4, Try.ntmps4
  have x0 := blk_cell Hx0.out 0
  have x1 := blk_cell Hx0.out 1
  have x2 := blk_cell Hx0.out 2
  have x3 := blk_cell Hx0.out 3
  have x4 := blk_cell Hx0.out 4
  have x5 := blk_cell Hx0.out 5
  simp only [List.getElem?_toArray, List.getElem?_cons_succ, List.getElem?_cons_zero] at x0 x1 x2 x3 x4 x5
  go_wp2_with fail
  refine (C1.out _).mono ?_; rintro e w1 ⟨rfl, hb1⟩
  have HB1 := Lib.hid (below_step (below_alloc (Below.refl _ _) _) hb1)
  have Hx1 := Lib.hid (blk_below Hx0.out hb1)
  clear hb1
  clear x0 x1 x2 x3 x4 x5
  have x0 := blk_cell Hx1.out 0
  have x1 := blk_cell Hx1.out 1
  have x2 := blk_cell Hx1.out 2
  have x3 := blk_cell Hx1.out 3
  have x4 := blk_cell Hx1.out 4
  have x5 := blk_cell Hx1.out 5
  simp only [List.getElem?_toArray, List.getElem?_cons_succ, List.getElem?_cons_zero] at x0 x1 x2 x3 x4 x5
  go_wp2_with fail
  refine (C2.out _).mono ?_; rintro e w2 ⟨rfl, hb2⟩
  have HB2 := Lib.hid (below_alloc (below_step HB1.out hb2) (.cells #[.int .i64 x, .int .i64 y, .int .i64 z] 23))
  have Hx2 := Lib.hid (blk_below (blk_below Hx1.out hb2) (below_alloc (Below.refl w2.heap.size w2) (.cells #[.int .i64 x, .int .i64 y, .int .i64 z] 23)))
  clear hb2
  clear x0 x1 x2 x3 x4 x5
  have x0 := blk_cell Hx2.out 0
  have x1 := blk_cell Hx2.out 1
  have x2 := blk_cell Hx2.out 2
  have x3 := blk_cell Hx2.out 3
  have x4 := blk_cell Hx2.out 4
  have x5 := blk_cell Hx2.out 5
  simp only [List.getElem?_toArray, List.getElem?_cons_succ, List.getElem?_cons_zero] at x0 x1 x2 x3 x4 x5
  have kk0 : decide (o3 < 0) = false := decide_eq_false (by omega)
  have kk1 : decide (1023 < o3) = false := decide_eq_false (by omega)
  go_wp2_with fail
  refine (C3.out _).mono ?_; rintro e w3 ⟨rfl, hb3⟩
  have HB3 := Lib.hid (below_alloc (below_step HB2.out hb3) (.cells #[.int .i64 p1, .int .i64 p2, .int .i64 p3] 23))
  have Hx3 := Lib.hid (blk_below (blk_below Hx2.out hb3) (below_alloc (Below.refl w3.heap.size w3) (.cells #[.int .i64 p1, .int .i64 p2, .int .i64 p3] 23)))
  clear hb3
  clear x0 x1 x2 x3 x4 x5
  have x0 := blk_cell Hx3.out 0
  have x1 := blk_cell Hx3.out 1
  have x2 := blk_cell Hx3.out 2
  have x3 := blk_cell Hx3.out 3
  have x4 := blk_cell Hx3.out 4
  have x5 := blk_cell Hx3.out 5
  simp only [List.getElem?_toArray, List.getElem?_cons_succ, List.getElem?_cons_zero] at x0 x1 x2 x3 x4 x5
  go_wp2_with fail
  refine (C4.out _).mono ?_; rintro e w4 ⟨rfl, hb4⟩
  have HB4 := Lib.hid (below_step HB3.out hb4)
  have Hx4 := Lib.hid (blk_below Hx3.out hb4)
  clear hb4
  clear x0 x1 x2 x3 x4 x5
  have x0 := blk_cell Hx4.out 0
  have x1 := blk_cell Hx4.out 1
  have x2 := blk_cell Hx4.out 2
  have x3 := blk_cell Hx4.out 3
  have x4 := blk_cell Hx4.out 4
  have x5 := blk_cell Hx4.out 5
  simp only [List.getElem?_toArray, List.getElem?_cons_succ, List.getElem?_cons_zero] at x0 x1 x2 x3 x4 x5
  go_wp2_with fail
  refine (works24 _).mono ?_; rintro e w5 ⟨rfl, hb5⟩
  have HB5 := Lib.hid (below_step HB4.out hb5)
  clear hb5
  go_wp2
  go_ret
  exact ⟨rfl, HB5.out⟩
set_option maxHeartbeats 1000000 in
set_option maxRecDepth 100000 in
theorem backLawTF (x y z b c a : Int) (w : World) (hA : inS x y z = true) (hB : ¬ ((-4096 ≤ b ∧ b ≤ 4095) ∧ (-4096 ≤ c ∧ c ≤ 4095) ∧ 0 ≤ a ∧ a ≤ 1023)) :
    Calls Try.prog 4 #[.agg #[.int .i64 x, .int .i64 y, .int .i64 z, .int .i64 b, .int .i64 c, .int .i64 a]] w fun e w' => e = .returned (.bool true) ∧ Below w.heap.size w w' := by
  obtain ⟨o1, o2, o3, ho, hbk, k0, k1⟩ : ∃ o1 o2 o3, ofS x y z = (o1, o2, o3, true) ∧ backS o1 o2 o3 = (x, y, z, true) ∧ 0 ≤ o3 ∧ o3 ≤ 1023 := by
    have h := of_back x y z hA
    exact ⟨_, _, _, by unfold ofS; rw [if_pos hA], h.1, h.2.1, h.2.2⟩
  have C1 := Lib.hid (fun W => PRegionPlaces.region_Of.calls x y z o1 o2 o3 true W ((of_f x y z).trans (by rw [ho])))
  have C2 := Lib.hid (fun W => PRegionPlaces.region_Back.calls o1 o2 o3 x y z true W ((back_f o1 o2 o3).trans (by rw [hbk])))
  clear ho hbk hA
  have C3 := Lib.hid (fun W => PRegionPlaces.region_Back.calls b c a 0 0 0 false W ((back_f b c a).trans (by unfold backS; rw [if_neg hB])))
  clear hB
  have Hx0 := Lib.hid (blk_new w (.cells #[.int .i64 x, .int .i64 y, .int .i64 z, .int .i64 b, .int .i64 c, .int .i64 a] 31))
  go_enter Try.func4, Try.ntmps4
  have x0 := blk_cell Hx0.out 0
  have x1 := blk_cell Hx0.out 1
  have x2 := blk_cell Hx0.out 2
  have x3 := blk_cell Hx0.out 3
  have x4 := blk_cell Hx0.out 4
  have x5 := blk_cell Hx0.out 5
  simp only [List.getElem?_toArray, List.getElem?_cons_succ, List.getElem?_cons_zero] at x0 x1 x2 x3 x4 x5
  go_wp2_with fail
  refine (C1.out _).mono ?_; rintro e w1 ⟨rfl, hb1⟩
  have HB1 := Lib.hid (below_step (below_alloc (Below.refl _ _) _) hb1)
  have Hx1 := Lib.hid (blk_below Hx0.out hb1)
  clear hb1
  clear x0 x1 x2 x3 x4 x5
  have x0 := blk_cell Hx1.out 0
  have x1 := blk_cell Hx1.out 1
  have x2 := blk_cell Hx1.out 2
  have x3 := blk_cell Hx1.out 3
  have x4 := blk_cell Hx1.out 4
  have x5 := blk_cell Hx1.out 5
  simp only [List.getElem?_toArray, List.getElem?_cons_succ, List.getElem?_cons_zero] at x0 x1 x2 x3 x4 x5
  go_wp2_with fail
  refine (C2.out _).mono ?_; rintro e w2 ⟨rfl, hb2⟩
  have HB2 := Lib.hid (below_alloc (below_step HB1.out hb2) (.cells #[.int .i64 x, .int .i64 y, .int .i64 z] 23))
  have Hx2 := Lib.hid (blk_below (blk_below Hx1.out hb2) (below_alloc (Below.refl w2.heap.size w2) (.cells #[.int .i64 x, .int .i64 y, .int .i64 z] 23)))
  clear hb2
  clear x0 x1 x2 x3 x4 x5
  have x0 := blk_cell Hx2.out 0
  have x1 := blk_cell Hx2.out 1
  have x2 := blk_cell Hx2.out 2
  have x3 := blk_cell Hx2.out 3
  have x4 := blk_cell Hx2.out 4
  have x5 := blk_cell Hx2.out 5
  simp only [List.getElem?_toArray, List.getElem?_cons_succ, List.getElem?_cons_zero] at x0 x1 x2 x3 x4 x5
  have kk0 : decide (o3 < 0) = false := decide_eq_false (by omega)
  have kk1 : decide (1023 < o3) = false := decide_eq_false (by omega)
  go_wp2_with fail
  refine (C3.out _).mono ?_; rintro e w3 ⟨rfl, hb3⟩
  have HB3 := Lib.hid (below_alloc (below_step HB2.out hb3) (.cells #[.int .i64 0, .int .i64 0, .int .i64 0] 23))
  have Hx3 := Lib.hid (blk_below (blk_below Hx2.out hb3) (below_alloc (Below.refl w3.heap.size w3) (.cells #[.int .i64 0, .int .i64 0, .int .i64 0] 23)))
  clear hb3
  clear x0 x1 x2 x3 x4 x5
  have x0 := blk_cell Hx3.out 0
  have x1 := blk_cell Hx3.out 1
  have x2 := blk_cell Hx3.out 2
  have x3 := blk_cell Hx3.out 3
  have x4 := blk_cell Hx3.out 4
  have x5 := blk_cell Hx3.out 5
  simp only [List.getElem?_toArray, List.getElem?_cons_succ, List.getElem?_cons_zero] at x0 x1 x2 x3 x4 x5
  go_wp2_with fail
  refine (works24 _).mono ?_; rintro e w5 ⟨rfl, hb5⟩
  have HB5 := Lib.hid (below_step HB3.out hb5)
  clear hb5
  go_wp2
  go_ret
  exact ⟨rfl, HB5.out⟩
set_option maxHeartbeats 1000000 in
set_option maxRecDepth 100000 in
theorem backLawFT (x y z b c a : Int) (w : World) (hA : inS x y z = false) (hB : ((-4096 ≤ b ∧ b ≤ 4095) ∧ (-4096 ≤ c ∧ c ≤ 4095) ∧ 0 ≤ a ∧ a ≤ 1023)) :
    Calls Try.prog 4 #[.agg #[.int .i64 x, .int .i64 y, .int .i64 z, .int .i64 b, .int .i64 c, .int .i64 a]] w fun e w' => e = .returned (.bool true) ∧ Below w.heap.size w w' := by
  have C1 := Lib.hid (fun W => PRegionPlaces.region_Of.calls x y z 0 0 0 false W ((of_f x y z).trans (by unfold ofS; rw [hA]; rfl)))
  clear hA
  obtain ⟨p1, p2, p3, hp, hof⟩ : ∃ p1 p2 p3, backS b c a = (p1, p2, p3, true) ∧ ofS p1 p2 p3 = (b, c, a, true) := ⟨_, _, _, by unfold backS; rw [if_pos hB], back_of b c a hB⟩
  have C3 := Lib.hid (fun W => PRegionPlaces.region_Back.calls b c a p1 p2 p3 true W ((back_f b c a).trans (by rw [hp])))
  have C4 := Lib.hid (fun W => PRegionPlaces.region_Of.calls p1 p2 p3 b c a true W ((of_f p1 p2 p3).trans (by rw [hof])))
  clear hp hof hB
  have Hx0 := Lib.hid (blk_new w (.cells #[.int .i64 x, .int .i64 y, .int .i64 z, .int .i64 b, .int .i64 c, .int .i64 a] 31))
  go_enter Try.func4, Try.ntmps4
  have x0 := blk_cell Hx0.out 0
  have x1 := blk_cell Hx0.out 1
  have x2 := blk_cell Hx0.out 2
  have x3 := blk_cell Hx0.out 3
  have x4 := blk_cell Hx0.out 4
  have x5 := blk_cell Hx0.out 5
  simp only [List.getElem?_toArray, List.getElem?_cons_succ, List.getElem?_cons_zero] at x0 x1 x2 x3 x4 x5
  go_wp2_with fail
  refine (C1.out _).mono ?_; rintro e w1 ⟨rfl, hb1⟩
  have HB1 := Lib.hid (below_step (below_alloc (Below.refl _ _) _) hb1)
  have Hx1 := Lib.hid (blk_below Hx0.out hb1)
  clear hb1
  clear x0 x1 x2 x3 x4 x5
  have x0 := blk_cell Hx1.out 0
  have x1 := blk_cell Hx1.out 1
  have x2 := blk_cell Hx1.out 2
  have x3 := blk_cell Hx1.out 3
  have x4 := blk_cell Hx1.out 4
  have x5 := blk_cell Hx1.out 5
  simp only [List.getElem?_toArray, List.getElem?_cons_succ, List.getElem?_cons_zero] at x0 x1 x2 x3 x4 x5
  go_wp2_with fail
  refine (C3.out _).mono ?_; rintro e w3 ⟨rfl, hb3⟩
  have HB3 := Lib.hid (below_alloc (below_step HB1.out hb3) (.cells #[.int .i64 p1, .int .i64 p2, .int .i64 p3] 23))
  have Hx3 := Lib.hid (blk_below (blk_below Hx1.out hb3) (below_alloc (Below.refl w3.heap.size w3) (.cells #[.int .i64 p1, .int .i64 p2, .int .i64 p3] 23)))
  clear hb3
  clear x0 x1 x2 x3 x4 x5
  have x0 := blk_cell Hx3.out 0
  have x1 := blk_cell Hx3.out 1
  have x2 := blk_cell Hx3.out 2
  have x3 := blk_cell Hx3.out 3
  have x4 := blk_cell Hx3.out 4
  have x5 := blk_cell Hx3.out 5
  simp only [List.getElem?_toArray, List.getElem?_cons_succ, List.getElem?_cons_zero] at x0 x1 x2 x3 x4 x5
  go_wp2_with fail
  refine (C4.out _).mono ?_; rintro e w4 ⟨rfl, hb4⟩
  have HB4 := Lib.hid (below_step HB3.out hb4)
  have Hx4 := Lib.hid (blk_below Hx3.out hb4)
  clear hb4
  clear x0 x1 x2 x3 x4 x5
  have x0 := blk_cell Hx4.out 0
  have x1 := blk_cell Hx4.out 1
  have x2 := blk_cell Hx4.out 2
  have x3 := blk_cell Hx4.out 3
  have x4 := blk_cell Hx4.out 4
  have x5 := blk_cell Hx4.out 5
  simp only [List.getElem?_toArray, List.getElem?_cons_succ, List.getElem?_cons_zero] at x0 x1 x2 x3 x4 x5
  go_wp2_with fail
  refine (works24 _).mono ?_; rintro e w5 ⟨rfl, hb5⟩
  have HB5 := Lib.hid (below_step HB4.out hb5)
  clear hb5
  go_wp2
  go_ret
  exact ⟨rfl, HB5.out⟩
set_option maxHeartbeats 1000000 in
set_option maxRecDepth 100000 in
theorem backLawFF (x y z b c a : Int) (w : World) (hA : inS x y z = false) (hB : ¬ ((-4096 ≤ b ∧ b ≤ 4095) ∧ (-4096 ≤ c ∧ c ≤ 4095) ∧ 0 ≤ a ∧ a ≤ 1023)) :
    Calls Try.prog 4 #[.agg #[.int .i64 x, .int .i64 y, .int .i64 z, .int .i64 b, .int .i64 c, .int .i64 a]] w fun e w' => e = .returned (.bool true) ∧ Below w.heap.size w w' := by
  have C1 := Lib.hid (fun W => PRegionPlaces.region_Of.calls x y z 0 0 0 false W ((of_f x y z).trans (by unfold ofS; rw [hA]; rfl)))
  clear hA
  have C3 := Lib.hid (fun W => PRegionPlaces.region_Back.calls b c a 0 0 0 false W ((back_f b c a).trans (by unfold backS; rw [if_neg hB])))
  clear hB
  have Hx0 := Lib.hid (blk_new w (.cells #[.int .i64 x, .int .i64 y, .int .i64 z, .int .i64 b, .int .i64 c, .int .i64 a] 31))
  go_enter Try.func4, Try.ntmps4
  have x0 := blk_cell Hx0.out 0
  have x1 := blk_cell Hx0.out 1
  have x2 := blk_cell Hx0.out 2
  have x3 := blk_cell Hx0.out 3
  have x4 := blk_cell Hx0.out 4
  have x5 := blk_cell Hx0.out 5
  simp only [List.getElem?_toArray, List.getElem?_cons_succ, List.getElem?_cons_zero] at x0 x1 x2 x3 x4 x5
  go_wp2_with fail
  refine (C1.out _).mono ?_; rintro e w1 ⟨rfl, hb1⟩
  have HB1 := Lib.hid (below_step (below_alloc (Below.refl _ _) _) hb1)
  have Hx1 := Lib.hid (blk_below Hx0.out hb1)
  clear hb1
  clear x0 x1 x2 x3 x4 x5
  have x0 := blk_cell Hx1.out 0
  have x1 := blk_cell Hx1.out 1
  have x2 := blk_cell Hx1.out 2
  have x3 := blk_cell Hx1.out 3
  have x4 := blk_cell Hx1.out 4
  have x5 := blk_cell Hx1.out 5
  simp only [List.getElem?_toArray, List.getElem?_cons_succ, List.getElem?_cons_zero] at x0 x1 x2 x3 x4 x5
  go_wp2_with fail
  refine (C3.out _).mono ?_; rintro e w3 ⟨rfl, hb3⟩
  have HB3 := Lib.hid (below_alloc (below_step HB1.out hb3) (.cells #[.int .i64 0, .int .i64 0, .int .i64 0] 23))
  have Hx3 := Lib.hid (blk_below (blk_below Hx1.out hb3) (below_alloc (Below.refl w3.heap.size w3) (.cells #[.int .i64 0, .int .i64 0, .int .i64 0] 23)))
  clear hb3
  clear x0 x1 x2 x3 x4 x5
  have x0 := blk_cell Hx3.out 0
  have x1 := blk_cell Hx3.out 1
  have x2 := blk_cell Hx3.out 2
  have x3 := blk_cell Hx3.out 3
  have x4 := blk_cell Hx3.out 4
  have x5 := blk_cell Hx3.out 5
  simp only [List.getElem?_toArray, List.getElem?_cons_succ, List.getElem?_cons_zero] at x0 x1 x2 x3 x4 x5
  go_wp2_with fail
  refine (works24 _).mono ?_; rintro e w5 ⟨rfl, hb5⟩
  have HB5 := Lib.hid (below_step HB3.out hb5)
  clear hb5
  go_wp2
  go_ret
  exact ⟨rfl, HB5.out⟩
theorem open_asked {H : Type} {enc : TypeId × Value → H} {w : World} {base : Nat} {held : Bool} {r : Reach} {b0 : Nat} {v : Value} {d : DataW H} {p : List MemPlace}
    (hv : Value.okWide Try.prog w r b0 31 v) (h : DataW.Trod enc Try.prog w base (fun _ => true) held 31 v d p) :
    ∃ x y z b c a : Int, v = .agg #[.int .i64 x, .int .i64 y, .int .i64 z, .int .i64 b, .int .i64 c, .int .i64 a] := by
  obtain ⟨cs, rfl, hsz⟩ := okWide_struct Try.underlying31 hv
  have hC : Try.prog.cellsOf 31 = 6 := by kernel_rfl
  obtain ⟨l⟩ := cs
  match l, hsz.trans hC with
  | [c0, c1, c2, c3, c4, c5], _ =>
    obtain ⟨fuel, hf⟩ := h
    obtain ⟨xs, n, _, hx, _, hlen, hg⟩ := DataW.trod_struct Try.underlying31 hf
    have hS : Try.prog.cellsOf 23 = 3 := by kernel_rfl
    have hI : Try.prog.cellsOf 3 = 1 := by kernel_rfl
    match xs, hlen with
    | [q0, q1, q2, q3], _ =>
      have g0 : DataW.trod enc Try.prog w base (fun _ => true) held n 23 [c0, c1, c2] = some q0 := by
          have e : DataW.trod enc Try.prog w base (fun _ => true) held n 23 (([c0, c1, c2, c3, c4, c5].drop 0).take (Try.prog.cellsOf 23)) = some q0 := hg 0 _ rfl
          rw [hS] at e; exact e
      have g1 : DataW.trod enc Try.prog w base (fun _ => true) held n 3 [c3] = some q1 := by
          have e : DataW.trod enc Try.prog w base (fun _ => true) held n 3 (([c0, c1, c2, c3, c4, c5].drop 3).take (Try.prog.cellsOf 3)) = some q1 := hg 1 _ rfl
          rw [hI] at e; exact e
      have g2 : DataW.trod enc Try.prog w base (fun _ => true) held n 3 [c4] = some q2 := by
          have e : DataW.trod enc Try.prog w base (fun _ => true) held n 3 (([c0, c1, c2, c3, c4, c5].drop 4).take (Try.prog.cellsOf 3)) = some q2 := hg 2 _ rfl
          rw [hI] at e; exact e
      have g3 : DataW.trod enc Try.prog w base (fun _ => true) held n 3 [c5] = some q3 := by
          have e : DataW.trod enc Try.prog w base (fun _ => true) held n 3 (([c0, c1, c2, c3, c4, c5].drop 5).take (Try.prog.cellsOf 3)) = some q3 := hg 3 _ rfl
          rw [hI] at e; exact e
      obtain ⟨ys, m, _, _, _, hl2, hh⟩ := DataW.trod_struct Try.underlying23 g0
      match ys, hl2 with
      | [r0, r1, r2], _ =>
        have k0 : DataW.trod enc Try.prog w base (fun _ => true) held m 3 [c0] = some r0 := by
          have e : DataW.trod enc Try.prog w base (fun _ => true) held m 3 (([c0, c1, c2].drop 0).take (Try.prog.cellsOf 3)) = some r0 := hh 0 _ rfl
          rw [hI] at e; exact e
        have k1 : DataW.trod enc Try.prog w base (fun _ => true) held m 3 [c1] = some r1 := by
          have e : DataW.trod enc Try.prog w base (fun _ => true) held m 3 (([c0, c1, c2].drop 1).take (Try.prog.cellsOf 3)) = some r1 := hh 1 _ rfl
          rw [hI] at e; exact e
        have k2 : DataW.trod enc Try.prog w base (fun _ => true) held m 3 [c2] = some r2 := by
          have e : DataW.trod enc Try.prog w base (fun _ => true) held m 3 (([c0, c1, c2].drop 2).take (Try.prog.cellsOf 3)) = some r2 := hh 2 _ rfl
          rw [hI] at e; exact e
        obtain ⟨x, e0, _⟩ := DataW.trod_int Try.underlying3 k0
        obtain ⟨y, e1, _⟩ := DataW.trod_int Try.underlying3 k1
        obtain ⟨z, e2, _⟩ := DataW.trod_int Try.underlying3 k2
        obtain ⟨b, e3, _⟩ := DataW.trod_int Try.underlying3 g1
        obtain ⟨c, e4, _⟩ := DataW.trod_int Try.underlying3 g2
        obtain ⟨a, e5, _⟩ := DataW.trod_int Try.underlying3 g3
        simp only [List.cons.injEq, and_true] at e0 e1 e2 e3 e4 e5
        exact ⟨x, y, z, b, c, a, by rw [e0, e1, e2, e3, e4, e5]⟩
theorem rbackWalk {H : Type} {enc : TypeId × Value → H} {Q : Prop} (v : Value) (d : DataW H) (p : List MemPlace) (w : World) {base : Nat} {held : Bool} {r : Reach} {b0 : Nat}
    (hv : Value.okWide Try.prog w r b0 31 v) (h : DataW.Trod enc Try.prog w base (fun _ => true) held 31 v d p) (hq : Q) :
    Calls Try.prog 4 #[v] w fun e w' => e = .returned (.bool true) ∧ Below w.heap.size w w' := by
  obtain ⟨x, y, z, b, c, a, rfl⟩ := open_asked hv h
  by_cases hB : (-4096 ≤ b ∧ b ≤ 4095) ∧ (-4096 ≤ c ∧ c ≤ 4095) ∧ 0 ≤ a ∧ a ≤ 1023
  · cases hA : inS x y z with
    | true => exact backLawTT x y z b c a w hA hB
    | false => exact backLawFT x y z b c a w hA hB
  · cases hA : inS x y z with
    | true => exact backLawTF x y z b c a w hA hB
    | false => exact backLawFF x y z b c a w hA hB
end Go.Proofs.Ytijjecnmdhefbaa.RG
