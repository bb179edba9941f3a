/- One ask of both readers: the law's step. -/
import Derived.Test.YthgahepldlicbaaRRdrFixed
import Derived.Test.YthgahepldlicbaaRRdrInt
import Derived.Test.YthgahepldlicbaaRRdrText
import Derived.Test.YthgahepldlicbaaBOwn
import Derived.Deep.RegionHeld3
import Derived.Outline
namespace Go.Proofs.Ythgahepldlicbaa.BR
open Go.RowKit Go.Proofs.YthgahepldlicbaaW.PrintWords Go.Proofs.YthgahepldlicbaaW.PrintLast Go.Proofs.YthgahepldlicbaaW.PrintMore Go.Proofs.Ythgahepldlicbaa.CD
set_option linter.unusedVariables false
set_option linter.unusedSimpArgs false
theorem add_blk (a : Addr) (n : Nat) : (a.add n).block = a.block := by unfold Addr.add; split <;> rfl
theorem u8_apart {W : World} {k : Nat} {cs : Array Value} {t : TypeId} {A : Option Addr} {n : Nat} {xs : List Int} (hk : W.heap[k]? = some (.cells cs t (0, 0))) (hcs : ∀ (i : Nat) (x : Int), cs[i]? ≠ some (Value.int .u8 x)) (h : ReadsInt W .u8 A n xs) (hn : 0 < n) {ad : Addr} (ha : A = some ad) : ad.block ≠ k := by
  intro e
  obtain ⟨ad', e', hc⟩ := h.2.2 hn
  rw [ha] at e'
  obtain rfl := Option.some.inj e'
  have h1 := hc 0 hn
  unfold World.cell? at h1
  rw [add_blk, e, hk] at h1
  simp only at h1
  split at h1
  · cases h1
  · exact hcs _ _ h1
theorem hdr2 (A : Option Addr) (n c : Nat) (b : Bool) (i : Nat) (x : Int) : (#[Value.slice A n c, .bool b] : Array Value)[i]? ≠ some (.int .u8 x) := by
  match i with
  | 0 => simp
  | 1 => simp
  | i + 2 => simp
theorem hdr3 (A : Option Addr) (n c : Nat) (a b : Bool) (i : Nat) (x : Int) : (#[Value.slice A n c, .bool a, .bool b] : Array Value)[i]? ≠ some (.int .u8 x) := by
  match i with
  | 0 => simp
  | 1 => simp
  | 2 => simp
  | i + 3 => simp
theorem two_ne {W : World} {g g' : Nat} {xs ys : List Int} {a b : Bool} (h : Rdr W g xs a) (k : RRd W g' ys b) : g ≠ g' := by
  obtain ⟨A, c, hb, _⟩ := h.cell
  obtain ⟨A', c', hb', _⟩ := k.cell
  exact blk_ne hb hb' (by decide)
theorem rdr_keep {W W' : World} {g g' : Nat} {xs ys : List Int} {a b : Bool} (h : Rdr W g xs a) (k : RRd W g' ys b) (hg : W.grownBy W' (some g')) : Rdr W' g xs a := by
  refine h.kept hg (fun e => two_ne h k (Option.some.inj e)) fun ad e A c hb h0 hA => ?_
  obtain ⟨A', c', hb', _⟩ := k.cell
  obtain ⟨A2, c2, hb2, _, hr, _⟩ := h.cell
  rw [hb2] at hb
  simp only [Option.some.injEq, Obj.cells.injEq, Array.mk.injEq, List.cons.injEq, Value.slice.injEq, and_true, true_and] at hb
  obtain ⟨rfl, rfl⟩ := hb
  exact u8_apart hb' (hdr2 _ _ _ _) hr h0 hA (Option.some.inj e)
theorem rrd_keep {W W' : World} {g g' : Nat} {xs ys : List Int} {a b : Bool} (k : RRd W g' ys b) (h : Rdr W g xs a) (hg : W.grownBy W' (some g)) : RRd W' g' ys b := by
  refine k.kept hg (fun e => two_ne h k (Option.some.inj e).symm) fun ad e A c hb h0 hA => ?_
  obtain ⟨A', c', hb', _⟩ := h.cell
  obtain ⟨A2, c2, hb2, _, hr, _⟩ := k.cell
  rw [hb2] at hb
  simp only [Option.some.injEq, Obj.cells.injEq, Array.mk.injEq, List.cons.injEq, Value.slice.injEq, and_true, true_and] at hb
  obtain ⟨rfl, rfl⟩ := hb
  exact u8_apart hb' (hdr3 _ _ _ _ _) hr h0 hA (Option.some.inj e)
theorem rInt_eq (s : St) : rInt s = (zag (rNum s).1, (rNum s).2) := by
  unfold rInt rNum
  cases h : s.2 <;> simp [zag]
theorem rEnd_two (s : St) : (rEnd s).1 = 0 ∨ (rEnd s).1 = 4 := by
  unfold rEnd
  split
  · exact .inr rfl
  · split
    · exact .inr rfl
    · exact .inl rfl
/-- Both readers, at one state. -/
structure Both (w0 W : World) (g g' : Nat) (s : St) : Prop where
  one : Rdr W g s.1 s.2
  two : RRd W g' s.1 s.2
  below : Below w0.heap.size w0 W
  g1 : w0.heap.size ≤ g
  g2 : w0.heap.size ≤ g'
theorem Both.under {w0 W W' : World} {g g' : Nat} {s : St} (h : Both w0 W g g' s) (hb : Below W.heap.size W W') : Both w0 W' g g' s := ⟨h.one.below hb, h.two.below hb, below_step h.below hb, h.g1, h.g2⟩
theorem Both.half {w0 W w1 : World} {g g' : Nat} {s : St} {xs : List Int} {br : Bool} (h : Both w0 W g g' s) (hr : Rdr w1 g xs br) (hg : W.grownBy w1 (some g)) : RRd w1 g' s.1 s.2 ∧ Below w0.heap.size w0 w1 := ⟨rrd_keep h.two h.one hg, belowg h.below hg h.below.size h.g1⟩
theorem Both.whole {w0 W w1 w2 : World} {g g' : Nat} {s s' : St} (h : Both w0 W g g' s) (h1 : RRd w1 g' s.1 s.2 ∧ Below w0.heap.size w0 w1) (hr : Rdr w1 g s'.1 s'.2) (hq : RRd w2 g' s'.1 s'.2) (hg : w1.grownBy w2 (some g')) : Both w0 w2 g g' s' := ⟨rdr_keep hr h1.1 hg, hq, belowg h1.2 hg h1.2.size h.g2, h.g1, h.g2⟩
set_option maxHeartbeats 1000000 in
set_option maxRecDepth 100000 in
theorem step_at (w0 : World) (g g' : Nat) (s : St) (a n : Int) (w : World) (h : Both w0 w g g' s) (hn : n < 9223372036854775808) :
    Calls Try.prog 30 #[.pointer (some ⟨g, 0, none⟩), .pointer (some ⟨g', 0, none⟩), .agg #[.int .i64 a, .int .i64 n]] w fun e w' => ∃ s', e = .returned (.bool true) ∧ Both w0 w' g g' s' := by
  have Hx0 := blk_new w (.cells #[.int .i64 a, .int .i64 n] 63)
  have x0 := blk_cell Hx0 0
  have x1 := blk_cell Hx0 1
  have hgx := h.one.lt
  have HX1 := Lib.hid (fun (W : World) (hg : (w.alloc (.cells #[.int .i64 a, .int .i64 n] 63)).drew.grownBy W (some g)) => (hg.cell (a := ⟨w.heap.size, 1, none⟩) x1 (fun e => by injection e with e; simp only at e; omega) : W.cell? ⟨w.heap.size, 1, none⟩ = some (.int .i64 n)))
  have hgx2 := h.two.lt
  have HX2 := Lib.hid (fun (W W' : World) (hc : W.cell? ⟨w.heap.size, 1, none⟩ = some (.int .i64 n)) (hg : W.grownBy W' (some g')) => (hg.cell hc (fun e => by injection e with e; simp only at e; omega) : W'.cell? ⟨w.heap.size, 1, none⟩ = some (.int .i64 n)))
  clear hgx hgx2
  simp only [List.getElem?_toArray, List.getElem?_cons_succ, List.getElem?_cons_zero] at x0 x1
  have H := Lib.hid (h.under (below_alloc (Below.refl w.heap.size w) (.cells #[.int .i64 a, .int .i64 n] 63)))
  clear h Hx0
  have Hn := Lib.hid hn
  clear hn
  by_cases h0 : Int.tmod a 6 = 0
  · have c0 : (Int.tmod a 6 == 0) = true := beq_iff_eq.mpr h0
    have N1 := Lib.hid (fun W (k : Rdr W g s.1 s.2) => num_calls g s.1 s.2 W k)
    have N2 := Lib.hid (fun W (k : RRd W g' s.1 s.2) => refnum_calls g' s.1 s.2 W k)
    obtain ⟨⟨m, s'⟩, hs⟩ : ∃ q, rNum (s.1, s.2) = q := ⟨_, rfl⟩
    rw [hs] at N1 N2
    clear h0 hs
    go_enter Try.func30, Try.ntmps30
    go_wp2_with fail
    refine (N1.out _ H.out.one).mono ?_; rintro e w1 ⟨rfl, hr1, hg1⟩; have HH := Lib.hid (H.out.half hr1 hg1); have HR1 := Lib.hid hr1; clear hr1 hg1
    go_wp2_with fail
    refine (N2.out _ HH.out.1).mono ?_; rintro e w2 ⟨rfl, hr2, hg2⟩; have HW := Lib.hid (H.out.whole HH.out HR1.out hr2 hg2); clear hr2 hg2
    go_wp2
    go_ret
    exact ⟨s', rfl, HW.out⟩
  have c0 : (Int.tmod a 6 == 0) = false := beq_eq_false_iff_ne.mpr h0
  by_cases h1 : Int.tmod a 6 = 1
  · have c1 : (Int.tmod a 6 == 1) = true := beq_iff_eq.mpr h1
    have N1 := Lib.hid (fun W (k : Rdr W g s.1 s.2) => int_calls g s.1 s.2 W k)
    have N2 := Lib.hid (fun W (k : RRd W g' s.1 s.2) => refint_calls g' s.1 s.2 W k)
    rw [rInt_eq] at N1
    obtain ⟨⟨m, s'⟩, hs⟩ : ∃ q, rNum (s.1, s.2) = q := ⟨_, rfl⟩
    rw [hs] at N1 N2
    obtain ⟨z, hz⟩ : ∃ z, z = zag m := ⟨_, rfl⟩
    simp only at N1 N2
    rw [← hz] at N1 N2
    clear h0 h1 hs hz
    go_enter Try.func30, Try.ntmps30
    go_wp2_with fail
    refine (N1.out _ H.out.one).mono ?_; rintro e w1 ⟨rfl, hr1, hg1⟩; have HH := Lib.hid (H.out.half hr1 hg1); have HR1 := Lib.hid hr1; clear hr1 hg1
    go_wp2_with fail
    refine (N2.out _ HH.out.1).mono ?_; rintro e w2 ⟨rfl, hr2, hg2⟩; have HW := Lib.hid (H.out.whole HH.out HR1.out hr2 hg2); clear hr2 hg2
    go_wp2
    go_ret
    exact ⟨s', rfl, HW.out⟩
  have c1 : (Int.tmod a 6 == 1) = false := beq_eq_false_iff_ne.mpr h1
  by_cases h2 : Int.tmod a 6 = 2
  · have c2 : (Int.tmod a 6 == 2) = true := beq_iff_eq.mpr h2
    have N1 := Lib.hid (fun W (k : Rdr W g s.1 s.2) => text_calls g s.1 s.2 n W Hn.out k)
    have N2 := Lib.hid (fun W (k : RRd W g' s.1 s.2) => reftext_calls g' s.1 s.2 n W Hn.out k)
    obtain ⟨⟨m, s'⟩, hs⟩ : ∃ q, rText (s.1, s.2) n = q := ⟨_, rfl⟩
    rw [hs] at N1 N2
    obtain ⟨z, hz⟩ : ∃ z, z = strOfNums m := ⟨_, rfl⟩
    simp only at N1 N2
    rw [← hz] at N1 N2
    have hzz := BS.beq_same z
    clear h0 h1 h2 hs hz
    go_enter Try.func30, Try.ntmps30
    go_wp2_with fail
    have HD := Lib.hid (H.out.under (below_drew (Below.refl _ _)))
    go_region_held3 (fun W' => W'.cell? ⟨w.heap.size, 1, none⟩ = some (.int .i64 n)) (first | go_keep | assumption)
      (first | (go_at_call 25; refine (N1.out _ HD.out.one).mono ?_; rintro e w1 ⟨rfl, hr1, hg1⟩; have HH := Lib.hid (HD.out.half hr1 hg1); have HR1 := Lib.hid hr1; have x1' : w1.cell? ⟨w.heap.size, 1, none⟩ = some (.int .i64 n) := HX1.out w1 hg1; clear hr1 hg1) | (go_at_call 40; refine (N2.out _ HH.out.1).mono ?_; rintro e w2 ⟨rfl, hr2, hg2⟩; have x2' := HX2.out w1 w2 x1' hg2; have HW := Lib.hid (HD.out.whole HH.out HR1.out hr2 hg2); clear hr2 hg2))
    all_goals go_wp2
    all_goals go_ret
    all_goals exact ⟨s', rfl, HW.out⟩
  have c2 : (Int.tmod a 6 == 2) = false := beq_eq_false_iff_ne.mpr h2
  by_cases h3 : Int.tmod a 6 = 3
  · have c3 : (Int.tmod a 6 == 3) = true := beq_iff_eq.mpr h3
    have N1 := Lib.hid (fun W (k : Rdr W g s.1 s.2) => take_calls g s.1 s.2 n W k)
    have N2 := Lib.hid (fun W (k : RRd W g' s.1 s.2) => reftake_calls g' s.1 s.2 n W k)
    obtain ⟨⟨m, s'⟩, hs⟩ : ∃ q, rTake (s.1, s.2) n = q := ⟨_, rfl⟩
    rw [hs] at N1 N2
    simp only at N1 N2
    have hzz := BS.beq_same (strOfNums m)
    clear h0 h1 h2 h3 hs
    go_enter Try.func30, Try.ntmps30
    go_wp2_with fail
    have HD := Lib.hid (H.out.under (below_drew (Below.refl _ _)))
    go_region_held3 (fun W' => W'.cell? ⟨w.heap.size, 1, none⟩ = some (.int .i64 n)) (first | go_keep | assumption)
      (first | (go_at_call 27; refine (N1.out _ HD.out.one).mono ?_; rintro e w1 ⟨v1, rfl, ho1, hr1, hg1⟩; have HH := Lib.hid (HD.out.half hr1 hg1); have HR1 := Lib.hid hr1; have x1' : w1.cell? ⟨w.heap.size, 1, none⟩ = some (.int .i64 n) := HX1.out w1 hg1; have HO1 := Lib.hid ho1; clear hr1 hg1 ho1) | (go_at_call 41; refine (N2.out _ HH.out.1).mono ?_; rintro e w2 ⟨v2, rfl, ho2, hr2, hg2⟩; have x2' := HX2.out w1 w2 x1' hg2; have HW := Lib.hid (HD.out.whole HH.out HR1.out hr2 hg2); obtain ⟨A1, d1, rfl, hd1, hq1⟩ := (HO1.out.grown hg2 (fun e => by obtain ⟨A', c', hb', _⟩ := HH.out.1.cell; exact own_ne HO1.out hb' (by decide) e.symm)).slice; obtain ⟨A2, d2, rfl, hd2, hq2⟩ := ho2.slice; have k1 := string_of_reads (c := d1) (src := 26) Try.underlying26 Try.underlying5 Try.underlying9 hq1; have k2 := string_of_reads (c := d2) (src := 26) Try.underlying26 Try.underlying5 Try.underlying9 hq2; clear hr2 hg2 ho2 hd1 hq1 hd2 hq2))
    all_goals go_wp2
    all_goals go_ret
    all_goals exact ⟨s', rfl, HW.out⟩
  have c3 : (Int.tmod a 6 == 3) = false := beq_eq_false_iff_ne.mpr h3
  by_cases h4 : Int.tmod a 6 = 4
  · have c4 : (Int.tmod a 6 == 4) = true := beq_iff_eq.mpr h4
    have N1 := Lib.hid (fun W (k : Rdr W g s.1 s.2) => fixed_calls g s.1 s.2 n W k)
    have N2 := Lib.hid (fun W (k : RRd W g' s.1 s.2) => reffixed_calls g' s.1 s.2 n W k)
    obtain ⟨⟨m, s'⟩, hs⟩ : ∃ q, rFixed (s.1, s.2) n = q := ⟨_, rfl⟩
    rw [hs] at N1 N2
    simp only at N1 N2
    clear h0 h1 h2 h3 h4 hs
    go_enter Try.func30, Try.ntmps30
    go_wp2_with fail
    have HD := Lib.hid (H.out.under (below_drew (Below.refl _ _)))
    go_region_held3 (fun W' => W'.cell? ⟨w.heap.size, 1, none⟩ = some (.int .i64 n)) (first | go_keep | assumption)
      (first | (go_at_call 33; refine (N1.out _ HD.out.one).mono ?_; rintro e w1 ⟨rfl, hr1, hg1⟩; have HH := Lib.hid (HD.out.half hr1 hg1); have HR1 := Lib.hid hr1; have x1' : w1.cell? ⟨w.heap.size, 1, none⟩ = some (.int .i64 n) := HX1.out w1 hg1; clear hr1 hg1) | (go_at_call 42; refine (N2.out _ HH.out.1).mono ?_; rintro e w2 ⟨rfl, hr2, hg2⟩; have x2' := HX2.out w1 w2 x1' hg2; have HW := Lib.hid (HD.out.whole HH.out HR1.out hr2 hg2); clear hr2 hg2))
    all_goals go_wp2
    all_goals go_ret
    all_goals exact ⟨s', rfl, HW.out⟩
  have c4 : (Int.tmod a 6 == 4) = false := beq_eq_false_iff_ne.mpr h4
  have N1 := Lib.hid (fun W (k : Rdr W g s.1 s.2) => end_calls g s.1 s.2 W k)
  have N2 := Lib.hid (fun W (k : RRd W g' s.1 s.2) => refend_calls g' s.1 s.2 W k)
  have hz := rEnd_two (s.1, s.2)
  obtain ⟨⟨m, s'⟩, hs⟩ : ∃ q, rEnd (s.1, s.2) = q := ⟨_, rfl⟩
  rw [hs] at N1 N2 hz
  simp only at N1 N2 hz
  clear h0 h1 h2 h3 h4 hs
  rcases hz with rfl | rfl
  all_goals (
    go_enter Try.func30, Try.ntmps30
    go_wp2_with fail
    refine (N1.out _ H.out.one).mono ?_; rintro e w1 ⟨rfl, hr1, hg1⟩; have HH := Lib.hid (H.out.half hr1 hg1); have HR1 := Lib.hid hr1; clear hr1 hg1
    go_wp2_with fail
    refine (N2.out _ HH.out.1).mono ?_; rintro e w2 ⟨rfl, hr2, hg2⟩; have HW := Lib.hid (H.out.whole HH.out HR1.out hr2 hg2); clear hr2 hg2
    go_wp2
    go_ret
    exact ⟨s', rfl, HW.out⟩)
end Go.Proofs.Ythgahepldlicbaa.BR
