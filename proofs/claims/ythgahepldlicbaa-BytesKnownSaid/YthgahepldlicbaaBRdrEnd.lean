/- Walk of a reader's End. -/
import Derived.Test.YthgahepldlicbaaBRdr2
namespace Go.Proofs.Ythgahepldlicbaa.BR
open Go.RowKit Go.Proofs.YthgahepldlicbaaW.PrintWords Go.Proofs.YthgahepldlicbaaW.PrintLast Go.Proofs.YthgahepldlicbaaW.PrintMore Go.Proofs.Ythgahepldlicbaa.CD
set_option linter.unusedVariables false
set_option linter.unusedSimpArgs false
def rEnd (s : St) : Int × St := if s.2 then (4, s) else if 0 < s.1.length then (4, (s.1, true)) else (0, s)
theorem end_calls (g : Nat) (xs : List Int) (br : Bool) (w : World) (h : Rdr w g xs br) :
    Calls Try.prog 26 #[.pointer (some ⟨g, 0, none⟩)] w fun e w' => e = .returned (.int .i64 (rEnd (xs, br)).1) ∧ Rdr w' g (rEnd (xs, br)).2.1 (rEnd (xs, br)).2.2 ∧ w.grownBy w' (some g) := by
  have H := Lib.hid h
  obtain ⟨A, c, hb, hc, hr, hne⟩ := h.cell
  have h0 := blk_cell hb 0
  have h2 := blk_cell hb 2
  have f2 := blk_frozen hb 2
  simp only [List.getElem?_toArray, List.getElem?_cons_succ, List.getElem?_cons_zero] at h0 h2
  clear hb hc hr hne h
  unfold rEnd
  cases br with
  | true =>
    go_enter Try.func26, Try.ntmps26
    go_wp2_with (go_at_call 22; refine (err_calls g xs true _ H.out).mono ?_; rintro e w' ⟨rfl, ⟨nd, rfl⟩⟩)
    go_ret
    exact ⟨rfl, H.out.drewN _, gdrewN (World.grownBy.refl _ _) _⟩
  | false =>
    simp only [Bool.false_eq_true, if_false]
    by_cases hl : 0 < xs.length
    · rw [if_pos hl]
      have hd : decide (0 < xs.length) = true := decide_eq_true hl
      go_enter Try.func26, Try.ntmps26
      go_wp2_with (go_at_call 22; refine (err_calls g xs false _ H.out).mono ?_; rintro e w' ⟨rfl, ⟨nd, rfl⟩⟩)
      go_ret
      exact ⟨rfl, (H.out.drewN _).breaks, gset (gdrewN (World.grownBy.refl _ _) _) _ _⟩
    · rw [if_neg hl]
      have hd : decide (0 < xs.length) = false := decide_eq_false hl
      go_enter Try.func26, Try.ntmps26
      go_wp2_with (go_at_call 22; refine (err_calls g xs false _ H.out).mono ?_; rintro e w' ⟨rfl, ⟨nd, rfl⟩⟩)
      go_ret
      exact ⟨rfl, H.out.drewN _, gdrewN (World.grownBy.refl _ _) _⟩
end Go.Proofs.Ythgahepldlicbaa.BR
