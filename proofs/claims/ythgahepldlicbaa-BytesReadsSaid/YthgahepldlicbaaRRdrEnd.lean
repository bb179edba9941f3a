/- The reference reader's End and Fixed. -/
import Derived.Test.YthgahepldlicbaaRRdrRest
import Derived.Test.YthgahepldlicbaaBRdrEnd
import Derived.Test.YthgahepldlicbaaBRdrFixed
namespace Go.Proofs.Ythgahepldlicbaa.BR
open Go.RowKit Go.Proofs.YthgahepldlicbaaW.PrintWords Go.Proofs.YthgahepldlicbaaW.PrintLast Go.Proofs.YthgahepldlicbaaW.PrintMore Go.Proofs.Ythgahepldlicbaa.CD
set_option linter.unusedVariables false
set_option linter.unusedSimpArgs false
set_option maxRecDepth 100000 in
theorem refend_calls (g : Nat) (xs : List Int) (br : Bool) (w : World) (h : RRd w g xs br) :
    Calls Try.prog 43 #[.pointer (some ⟨g, 0, none⟩)] w fun e w' => e = .returned (.int .i64 (rEnd (xs, br)).1) ∧ RRd w' g (rEnd (xs, br)).2.1 (rEnd (xs, br)).2.2 ∧ w.grownBy w' (some g) := by
  have H := Lib.hid h
  obtain ⟨A, c, hb, hc, hr, hne⟩ := h.cell
  have h0 := blk_cell hb 0
  have h1 := blk_cell hb 1
  have f1 := blk_frozen hb 1
  simp only [List.getElem?_toArray, List.getElem?_cons_succ, List.getElem?_cons_zero] at h0 h1
  clear hb hc hr hne h
  by_cases hl : 0 < xs.length
  · have e : rEnd (xs, br) = (4, (xs, true)) := by unfold rEnd; cases br <;> simp [hl]
    have hd : decide (0 < xs.length) = true := decide_eq_true hl
    rw [e]; clear e hl
    go_enter Try.func43, Try.ntmps43
    go_wp2_with fail
    refine (referr_calls g xs true _ H.out.breaks).mono ?_; rintro e w1 ⟨rfl, ⟨n1, rfl⟩⟩
    go_wp2
    go_ret
    exact ⟨rfl, H.out.breaks.drewN _, gdrewN (gset (World.grownBy.refl _ _) _ _) _⟩
  · have e : rEnd (xs, br) = (if br then 4 else 0, (xs, br)) := by unfold rEnd; cases br <;> simp [hl]
    have hd : decide (0 < xs.length) = false := decide_eq_false hl
    rw [e]; clear e hl
    cases br
    all_goals (
      go_enter Try.func43, Try.ntmps43
      go_wp2_with fail
      refine (referr_calls g xs _ _ H.out).mono ?_; rintro e w1 ⟨rfl, ⟨n1, rfl⟩⟩
      go_wp2
      go_ret
      exact ⟨rfl, H.out.drewN _, gdrewN (World.grownBy.refl _ _) _⟩)
end Go.Proofs.Ythgahepldlicbaa.BR
