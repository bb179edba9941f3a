/- The reference reader's Int, Take, Left, Err, End. -/
import Derived.Test.YthgahepldlicbaaRRdrNum
import Derived.Test.YthgahepldlicbaaBRdrInt
import Derived.Test.YthgahepldlicbaaBRdrEnd
namespace Go.Proofs.Ythgahepldlicbaa.BR
open Go.RowKit Go.Proofs.YthgahepldlicbaaW.PrintWords Go.Proofs.YthgahepldlicbaaW.PrintLast Go.Proofs.YthgahepldlicbaaW.PrintMore Go.Proofs.Ythgahepldlicbaa.CD
set_option linter.unusedVariables false
set_option linter.unusedSimpArgs false
theorem zag_f (n : Nat) (hn : n < 18446744073709551616) : PBytesReads.bedrockref04_Back.f (n : Int) = some (zag n) := by
  unfold PBytesReads.bedrockref04_Back.f zag
  rw [Int.tmod_eq_emod_of_nonneg (by omega), Int.tdiv_eq_ediv_of_nonneg (by omega), CF.wu64]
  by_cases h : n % 2 = 0
  · rw [if_pos (by omega), if_pos h]; congr 1; unfold wrap64; omega
  · rw [if_neg (by omega), if_neg h]; congr 1; unfold wrap64; omega
set_option maxRecDepth 100000 in
theorem refint_calls (g : Nat) (xs : List Int) (br : Bool) (w : World) (h : RRd w g xs br) :
    Calls Try.prog 39 #[.pointer (some ⟨g, 0, none⟩)] w fun e w' => e = .returned (.int .i64 (zag (rNum (xs, br)).1)) ∧ RRd w' g (rNum (xs, br)).2.1 (rNum (xs, br)).2.2 ∧ w.grownBy w' (some g) := by
  have hl := rNum_lt (xs, br) h.bytes
  have H := Lib.hid h
  have HC := Lib.hid (refnum_calls g xs br w h)
  obtain ⟨⟨m, s⟩, hs⟩ : ∃ q, rNum (xs, br) = q := ⟨_, rfl⟩
  rw [hs] at hl HC ⊢
  have HB := Lib.hid (fun W => PBytesReads.bedrockref04_Back.calls (m : Int) _ W (zag_f m hl))
  clear h hs
  go_enter Try.func39, Try.ntmps39
  go_wp2_with fail
  refine HC.out.mono ?_; rintro e w1 ⟨rfl, hr1, hg1⟩; have HR1 := Lib.hid hr1; have HG1 := Lib.hid hg1; clear hr1 hg1
  go_wp2_with fail
  refine (HB.out _).mono ?_; rintro e w2 ⟨rfl, ⟨n2, rfl⟩⟩
  go_wp2
  go_ret
  exact ⟨rfl, HR1.out.drewN _, gdrewN HG1.out _⟩
end Go.Proofs.Ythgahepldlicbaa.BR
