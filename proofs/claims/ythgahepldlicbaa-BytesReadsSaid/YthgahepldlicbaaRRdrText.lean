/- The reference reader's Text. -/
import Derived.Test.YthgahepldlicbaaRRdrNum
import Derived.Test.YthgahepldlicbaaBRdrText
namespace Go.Proofs.Ythgahepldlicbaa.BR
open Go.RowKit Go.Proofs.YthgahepldlicbaaW.PrintWords Go.Proofs.YthgahepldlicbaaW.PrintLast Go.Proofs.YthgahepldlicbaaW.PrintMore Go.Proofs.Ythgahepldlicbaa.CD
set_option linter.unusedVariables false
set_option linter.unusedSimpArgs false
set_option maxHeartbeats 400000 in
set_option maxRecDepth 100000 in
theorem reftext_no (g : Nat) (xs : List Int) (most : Int) (w : World) (hmw : most < 9223372036854775808) (h : RRd w g xs false) (m k : Nat) (hd : dec xs = (m, k)) (hn : k = 0 ∨ most < 0 ∨ (m : Int) > most ∨ m > xs.length - k) :
    Calls Try.prog 40 #[.pointer (some ⟨g, 0, none⟩), .int .i64 most] w fun e w' => e = .returned (.string (strOfNums [])) ∧ RRd w' g xs true ∧ w.grownBy w' (some g) := by
  have H := Lib.hid h
  obtain ⟨A, c, hb, hc, hr, hne⟩ := h.cell
  have h0 := blk_cell hb 0
  have h1 := blk_cell hb 1
  simp only [List.getElem?_toArray, List.getElem?_cons_succ, List.getElem?_cons_zero] at h0 h1
  have HF0 := first_calls A c xs w hr hc h.bytes h.small
  rw [hd] at HF0
  have HF := Lib.hid HF0
  have hkl : k ≠ 0 → k ≤ xs.length := fun hk => (dec_back xs h.bytes m k hd hk).2.2.2.1
  have hsm := h.small
  have hk10 : k ≠ 0 → k ≤ 10 := fun hk => (dec_back xs h.bytes m k hd hk).2.2.2.2.2
  clear hb hc hr hne h HF0
  by_cases hk : k = 0
  · subst hk
    clear hn hkl hsm hmw hd hk10
    go_enter Try.func40, Try.ntmps40
    go_wp2_with fail
    refine HF.out.mono ?_; rintro e w1 ⟨rfl, hb1⟩; have HB1 := Lib.hid hb1; clear hb1
    go_wp2_with fail
    refine (step_no g xs false (-1) _ (H.out.below HB1.out) (by omega)).mono ?_; rintro e w2 ⟨v2, rfl, ho2, hr2, hg2⟩; have HR2 := Lib.hid hr2; have HG2 := Lib.hid (gtrans (gofBelow HB1.out) hg2); clear ho2 hr2 hg2
    go_wp2
    go_ret
    exact ⟨rfl, HR2.out, HG2.out⟩
  have hk0 : (((k : Nat) : Int) == 0) = false := by rw [beq_eq_false_iff_ne]; omega
  have hkl := hkl hk
  by_cases hm : most < 0
  · have hd0 : decide (most < 0) = true := decide_eq_true hm
    clear hn hkl hsm hmw hd hm hk hk10
    go_enter Try.func40, Try.ntmps40
    go_wp2_with fail
    refine HF.out.mono ?_; rintro e w1 ⟨rfl, hb1⟩; have HB1 := Lib.hid hb1; clear hb1
    go_wp2_with fail
    refine (step_no g xs false (-1) _ (H.out.below HB1.out) (by omega)).mono ?_; rintro e w2 ⟨v2, rfl, ho2, hr2, hg2⟩; have HR2 := Lib.hid hr2; have HG2 := Lib.hid (gtrans (gofBelow HB1.out) hg2); clear ho2 hr2 hg2
    go_wp2
    go_ret
    exact ⟨rfl, HR2.out, HG2.out⟩
  have hd0 : decide (most < 0) = false := decide_eq_false hm
  by_cases hm2 : (m : Int) > most
  · have hd1 : decide (most < (m : Int)) = true := decide_eq_true hm2
    have ew : IntKind.u64.wrap most = most := CF.wu64_id _ (by omega) (by omega)
    clear hn hkl hsm hmw hd hm hm2 hk hk10
    go_enter Try.func40, Try.ntmps40
    go_wp2_with fail
    refine HF.out.mono ?_; rintro e w1 ⟨rfl, hb1⟩; have HB1 := Lib.hid hb1; clear hb1
    go_wp2_with fail
    refine (step_no g xs false (-1) _ (H.out.below HB1.out) (by omega)).mono ?_; rintro e w2 ⟨v2, rfl, ho2, hr2, hg2⟩; have HR2 := Lib.hid hr2; have HG2 := Lib.hid (gtrans (gofBelow HB1.out) hg2); clear ho2 hr2 hg2
    go_wp2
    go_ret
    exact ⟨rfl, HR2.out, HG2.out⟩
  have hd1 : decide (most < (m : Int)) = false := decide_eq_false hm2
  have hd2 : decide (xs.length - k < m) = true := decide_eq_true (by omega)
  have b3 : xs.length - k < 18446744073709551616 := by omega
  have ew : IntKind.u64.wrap most = most := CF.wu64_id _ (by omega) (by omega)
  have ew2 := wsub xs.length k hkl hsm
  have ew3 := wu64n (xs.length - k) b3
  have h0a : ∀ W, Below w.heap.size w W → W.cell? ⟨g, 0, none⟩ = some (.slice A xs.length c) := fun W hb => pw_cell_below hb h0
  have H0 := Lib.hid h0a
  clear b3 h0a
  clear hn hkl hsm hmw hd hm hm2 hk hk10
  go_enter Try.func40, Try.ntmps40
  go_wp2_with fail
  refine HF.out.mono ?_; rintro e w1 ⟨rfl, hb1⟩; have HB1 := Lib.hid hb1; clear hb1
  have q0 := H0.out w1 HB1.out
  go_wp2_with fail
  refine (step_no g xs false (-1) _ (H.out.below HB1.out) (by omega)).mono ?_; rintro e w2 ⟨v2, rfl, ho2, hr2, hg2⟩; have HR2 := Lib.hid hr2; have HG2 := Lib.hid (gtrans (gofBelow HB1.out) hg2); clear ho2 hr2 hg2
  clear q0
  go_wp2
  go_ret
  exact ⟨rfl, HR2.out, HG2.out⟩
set_option maxHeartbeats 400000 in
set_option maxRecDepth 100000 in
theorem reftext_ok (g : Nat) (xs : List Int) (most : Int) (w : World) (hmw : most < 9223372036854775808) (h : RRd w g xs false) (m k : Nat) (hd : dec xs = (m, k)) (hk : k ≠ 0) (hm : 0 ≤ most) (hm2 : (m : Int) ≤ most) (hkm : k + m ≤ xs.length) :
    Calls Try.prog 40 #[.pointer (some ⟨g, 0, none⟩), .int .i64 most] w fun e w' => e = .returned (.string (strOfNums ((xs.drop k).take m))) ∧ RRd w' g (xs.drop (k + m)) false ∧ w.grownBy w' (some g) := by
  have H := Lib.hid h
  obtain ⟨A, c, hb, hc, hr, hne⟩ := h.cell
  have h0 := blk_cell hb 0
  have h1 := blk_cell hb 1
  simp only [List.getElem?_toArray, List.getElem?_cons_succ, List.getElem?_cons_zero] at h0 h1
  have HF0 := first_calls A c xs w hr hc h.bytes h.small
  rw [hd] at HF0
  have HF := Lib.hid HF0
  have hsm := h.small
  have hk0 : (((k : Nat) : Int) == 0) = false := by rw [beq_eq_false_iff_ne]; omega
  have hd0 : decide (most < 0) = false := decide_eq_false (by omega)
  have hd1 : decide (most < (m : Int)) = false := decide_eq_false (by omega)
  have hd2 : decide (xs.length - k < m) = false := decide_eq_false (by omega)
  have b0 : 0 ≤ most ∧ most < 18446744073709551616 := by omega
  have b1 : k ≤ xs.length := by omega
  have b3 : xs.length - k < 18446744073709551616 := by omega
  have b4 : m ≤ 140737488355328 := by omega
  have ew : IntKind.u64.wrap most = most := CF.wu64_id _ b0.1 b0.2
  have ew2 := wsub xs.length k b1 hsm
  have ew3 := wu64n (xs.length - k) b3
  have ew4 := w64n m b4
  have h0a : ∀ W, Below w.heap.size w W → W.cell? ⟨g, 0, none⟩ = some (.slice A xs.length c) := fun W hb => pw_cell_below hb h0
  have H0 := Lib.hid h0a
  have S1 := Lib.hid (fun W (hb : RRd W g xs false) => step_ok g xs false (k : Int) W hb (by omega) (by omega))
  have hl2 : (xs.drop k).length = xs.length - k := List.length_drop
  have S2 := Lib.hid (fun W (hb : RRd W g (xs.drop k) false) => step_ok g (xs.drop k) false (m : Int) W hb (by omega) (by omega))
  simp only [Int.toNat_natCast, List.drop_drop] at S1 S2
  obtain ⟨ys, hys⟩ : ∃ ys, ys = (xs.drop k).take m := ⟨_, rfl⟩
  rw [← hys] at S2 ⊢
  clear hb hc hr hne h HF0 hd hk hm hm2 hkm hmw hsm b0 b1 b3 b4 h0a hl2 hys
  go_enter Try.func40, Try.ntmps40
  go_wp2_with fail
  refine HF.out.mono ?_; rintro e w1 ⟨rfl, hb1⟩; have HB1 := Lib.hid hb1; clear hb1
  have q0 := H0.out w1 HB1.out
  go_wp2_with fail
  refine (S1.out _ (H.out.below HB1.out)).mono ?_; rintro e w2 ⟨v2, rfl, ho2, hr2, hg2⟩; have HR2 := Lib.hid hr2; have HG2 := Lib.hid (gtrans (gofBelow HB1.out) hg2); clear ho2 hr2 hg2
  clear q0
  go_wp2_with fail
  refine (S2.out _ HR2.out).mono ?_; rintro e w3 ⟨v3, rfl, ho3, hr3, hg3⟩; have HR3 := Lib.hid hr3; have HG3 := Lib.hid (gtrans HG2.out hg3)
  obtain ⟨A3, c3, rfl, hc3, hro⟩ := ho3.slice
  have hconv := string_of_reads (c := c3) (src := 26) Try.underlying26 Try.underlying5 Try.underlying9 hro
  clear ho3 hr3 hg3 hc3 hro
  go_wp2
  go_ret
  exact ⟨rfl, HR3.out, HG3.out⟩
set_option maxRecDepth 100000 in
theorem reftext_calls (g : Nat) (xs : List Int) (br : Bool) (most : Int) (w : World) (hmw : most < 9223372036854775808) (h : RRd w g xs br) :
    Calls Try.prog 40 #[.pointer (some ⟨g, 0, none⟩), .int .i64 most] w fun e w' => e = .returned (.string (strOfNums (rText (xs, br) most).1)) ∧ RRd w' g (rText (xs, br) most).2.1 (rText (xs, br) most).2.2 ∧ w.grownBy w' (some g) := by
  unfold rText
  cases br with
  | true =>
    have H := Lib.hid h
    obtain ⟨A, c, hb, hc, hr, hne⟩ := h.cell
    have h1 := blk_cell hb 1
    simp only [List.getElem?_toArray, List.getElem?_cons_succ, List.getElem?_cons_zero] at h1
    clear hb hc hr hne h
    go_enter Try.func40, Try.ntmps40
    go_wp2
    go_ret
    exact ⟨rfl, H.out, World.grownBy.refl _ _⟩
  | false =>
    simp only [Bool.false_eq_true, if_false]
    by_cases hn : (dec xs).2 = 0 ∨ most < 0 ∨ ((dec xs).1 : Int) > most ∨ (dec xs).1 > xs.length - (dec xs).2
    · rw [if_pos hn]; exact reftext_no g xs most w hmw h _ _ rfl hn
    · rw [if_neg hn]
      have hk : (dec xs).2 ≠ 0 := fun e => hn (.inl e)
      have : (dec xs).2 ≤ xs.length := (dec_back xs h.bytes _ _ rfl hk).2.2.2.1
      exact reftext_ok g xs most w hmw h _ _ rfl hk (by omega) (by omega) (by omega)
end Go.Proofs.Ythgahepldlicbaa.BR
