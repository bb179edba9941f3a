/- The reference reader's Take, Left, Err. -/
import Derived.Test.YthgahepldlicbaaRRdrNum
namespace Go.Proofs.Ythgahepldlicbaa.BR
open Go.RowKit Go.Proofs.YthgahepldlicbaaW.PrintWords Go.Proofs.YthgahepldlicbaaW.PrintLast Go.Proofs.YthgahepldlicbaaW.PrintMore Go.Proofs.Ythgahepldlicbaa.CD
set_option linter.unusedVariables false
set_option linter.unusedSimpArgs false
set_option maxRecDepth 100000 in
theorem reftake_calls (g : Nat) (xs : List Int) (br : Bool) (n : Int) (w : World) (h : RRd w g xs br) :
    Calls Try.prog 41 #[.pointer (some ⟨g, 0, none⟩), .int .i64 n] w fun e w' => ∃ v, e = .returned v ∧ OB w' w.heap.size v (rTake (xs, br) n).1 ∧ RRd w' g (rTake (xs, br) n).2.1 (rTake (xs, br) n).2.2 ∧ w.grownBy w' (some g) := by
  have H := Lib.hid h
  obtain ⟨A, c, hb, hc, hr, hne⟩ := h.cell
  have h1 := blk_cell hb 1
  simp only [List.getElem?_toArray, List.getElem?_cons_succ, List.getElem?_cons_zero] at h1
  clear hb hc hr hne h
  cases br with
  | true =>
    go_enter Try.func41, Try.ntmps41
    go_wp2
    go_ret
    exact ⟨_, rfl, own_nil _ _ _ _, H.out, World.grownBy.refl _ _⟩
  | false =>
    have HC := Lib.hid (step_calls g xs n w H.out)
    obtain ⟨⟨l, s⟩, hs⟩ : ∃ q, rTake (xs, false) n = q := ⟨_, rfl⟩
    rw [hs] at HC ⊢
    clear hs
    go_enter Try.func41, Try.ntmps41
    go_wp2_with fail
    refine HC.out.mono ?_; rintro e w1 ⟨v1, rfl, hh⟩; have HH := Lib.hid hh; clear hh
    go_wp2
    go_ret
    exact ⟨_, rfl, HH.out⟩
theorem refleft_calls (g : Nat) (xs : List Int) (br : Bool) (w : World) (h : RRd w g xs br) :
    Calls Try.prog 31 #[.pointer (some ⟨g, 0, none⟩)] w fun e w' => e = .returned (.int .i64 (xs.length : Int)) ∧ Drawn0 w w' := by
  obtain ⟨A, c, hb, hc, hr, hne⟩ := h.cell
  have h0 := blk_cell hb 0
  simp only [List.getElem?_toArray, List.getElem?_cons_succ, List.getElem?_cons_zero] at h0
  clear hb hc hr hne h
  go_enter Try.func31, Try.ntmps31
  go_wp2
  go_ret
  exact ⟨rfl, ⟨0, rfl⟩⟩
theorem referr_calls (g : Nat) (xs : List Int) (br : Bool) (w : World) (h : RRd w g xs br) :
    Calls Try.prog 32 #[.pointer (some ⟨g, 0, none⟩)] w fun e w' => e = .returned (.int .i64 (if br then 4 else 0)) ∧ Drawn0 w w' := by
  obtain ⟨A, c, hb, hc, hr, hne⟩ := h.cell
  have h1 := blk_cell hb 1
  simp only [List.getElem?_toArray, List.getElem?_cons_succ, List.getElem?_cons_zero] at h1
  clear hb hc hr hne h
  cases br with
  | true =>
    go_enter Try.func32, Try.ntmps32
    go_wp2
    go_ret
    exact ⟨rfl, ⟨0, rfl⟩⟩
  | false =>
    go_enter Try.func32, Try.ntmps32
    go_wp2
    go_ret
    exact ⟨rfl, ⟨0, rfl⟩⟩
end Go.Proofs.Ythgahepldlicbaa.BR
