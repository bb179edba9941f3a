/- RegionPlaces: a spot's region and its place there are the document's. -/
import Derived.Test.YtijjecnmdhefbaaRPlace
import Derived.DataShut
namespace Go.Proofs.Ytijjecnmdhefbaa.RG
open Go.RowKit Go.Proofs.YtijjecnmdhefbaaW.PrintWords Go.Proofs.YtijjecnmdhefbaaW.PrintLast Go.Proofs.YtijjecnmdhefbaaW.PrintMore Go.Proofs.Ytijjecnmdhefbaa.CD Go.Proofs.Ytijjecnmdhefbaa.BR Go.Proofs.Ytijjecnmdhefbaa.BP
set_option linter.unusedVariables false
set_option linter.unusedSimpArgs false
set_option maxHeartbeats 1000000 in
set_option maxRecDepth 100000 in
theorem placesLaw (x y z b a : Int) (w : World) :
    Calls Try.prog 3 #[.agg #[.int .i64 x, .int .i64 y, .int .i64 z], .int .i64 b, .int .i64 a] w fun e w' => e = .returned (.bool true) ∧ Below w.heap.size w w' := by
  obtain ⟨⟨o1, o2, o3, o4⟩, ho⟩ : ∃ o, ofS x y z = o := ⟨_, rfl⟩
  obtain ⟨⟨p1, p2, p3, p4⟩, hp⟩ : ∃ o, backS b z a = o := ⟨_, rfl⟩
  have C1 := Lib.hid (fun W => PRegionPlaces.region_Of.calls x y z o1 o2 o3 o4 W ((of_f x y z).trans (by rw [ho])))
  have C2 := Lib.hid (fun W => PRegionPlaces.bedrockref24_Of.calls x y z o1 o2 o3 o4 W ((of_ref x y z).trans (by rw [ho])))
  have C3 := Lib.hid (fun W => PRegionPlaces.region_Back.calls b z a p1 p2 p3 p4 W ((back_f b z a).trans (by rw [hp])))
  have C4 := Lib.hid (fun W => PRegionPlaces.bedrockref24_Back.calls b z a p1 p2 p3 p4 W ((back_ref b z a).trans (by rw [hp])))
  clear ho hp
  have Hx0 := Lib.hid (blk_new w (.cells #[.int .i64 x, .int .i64 y, .int .i64 z] 23))
  go_enter Try.func3, Try.ntmps3
  go_wp2_with fail
  refine (C1.out _).mono ?_; rintro e w1 ⟨rfl, hb1⟩
  have HB1 := Lib.hid (below_step (below_alloc (Below.refl _ _) _) hb1)
  have Hx1 := Lib.hid (blk_below Hx0.out hb1)
  have x0 := blk_cell Hx1.out 0
  have x1 := blk_cell Hx1.out 1
  have x2 := blk_cell Hx1.out 2
  simp only [List.getElem?_toArray, List.getElem?_cons_succ, List.getElem?_cons_zero] at x0 x1 x2
  clear hb1
  go_wp2_with fail
  refine (C2.out _).mono ?_; rintro e w2 ⟨rfl, hb2⟩
  have HB2 := Lib.hid (below_step HB1.out hb2)
  have Hx2 := Lib.hid (blk_below Hx1.out hb2)
  clear x0 x1 x2
  have x2 := blk_cell Hx2.out 2
  simp only [List.getElem?_toArray, List.getElem?_cons_succ, List.getElem?_cons_zero] at x2
  clear hb2
  go_wp2_with fail
  refine (C3.out _).mono ?_; rintro e w3 ⟨rfl, hb3⟩
  have HB3 := Lib.hid (below_step HB2.out hb3)
  have Hx3 := Lib.hid (blk_below Hx2.out hb3)
  clear x2
  have x2 := blk_cell (blk_below Hx3.out (below_alloc (Below.refl w3.heap.size w3) (.cells #[.int .i64 p1, .int .i64 p2, .int .i64 p3] 23))) 2
  simp only [List.getElem?_toArray, List.getElem?_cons_succ, List.getElem?_cons_zero] at x2
  clear hb3
  go_wp2_with fail
  refine (C4.out _).mono ?_; rintro e w4 ⟨rfl, hb4⟩
  have HB4 := Lib.hid (below_step (below_alloc HB3.out _) hb4)
  have Hq := Lib.hid (blk_below (blk_new w3 (.cells #[.int .i64 p1, .int .i64 p2, .int .i64 p3] 23)) hb4)
  have Hq2 := Lib.hid (blk_below Hq.out (below_alloc (Below.refl w4.heap.size w4) (.cells #[.int .i64 p1, .int .i64 p2, .int .i64 p3] 23)))
  clear x2 hb4
  have q0 := blk_cell Hq2.out 0
  have q1 := blk_cell Hq2.out 1
  have q2 := blk_cell Hq2.out 2
  simp only [List.getElem?_toArray, List.getElem?_cons_succ, List.getElem?_cons_zero] at q0 q1 q2
  go_wp2_with fail
  refine (works24 _).mono ?_; rintro e w5 ⟨rfl, hb5⟩
  have HB5 := Lib.hid (below_step (below_alloc HB4.out _) hb5)
  clear hb5
  go_wp2
  go_ret
  exact ⟨rfl, HB5.out⟩
theorem placesWalk (x y z b a : Int) (w : World) (h0 : (Lit.int .i64 x).wf = true) (h1 : (Lit.int .i64 y).wf = true) (h2 : (Lit.int .i64 z).wf = true) (h3 : (Lit.int .i64 b).wf = true) (h4 : (Lit.int .i64 a).wf = true) :
    Calls Try.prog 3 #[.agg #[.int .i64 x, .int .i64 y, .int .i64 z], .int .i64 b, .int .i64 a] w fun e w' => e = .returned (.bool true) ∧ Below w.heap.size w w' := placesLaw x y z b a w
end Go.Proofs.Ytijjecnmdhefbaa.RG
