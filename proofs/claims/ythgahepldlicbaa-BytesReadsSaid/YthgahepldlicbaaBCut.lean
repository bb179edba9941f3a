/- The laws' cut of a string. -/
import Derived.Test.YthgahepldlicbaaBRdr2
import Derived.Test.YthgahepldlicbaaPBytesBackx1
namespace Go.Proofs.Ythgahepldlicbaa.BP
open Go.RowKit Go.Proofs.YthgahepldlicbaaW.PrintWords Go.Proofs.YthgahepldlicbaaW.PrintLast Go.Proofs.YthgahepldlicbaaW.PrintMore Go.Proofs.Ythgahepldlicbaa.CD Go.Proofs.Ythgahepldlicbaa.BR
set_option linter.unusedVariables false
set_option linter.unusedSimpArgs false
/-- A string's first bytes. -/
def cutS (s : ByteArray) (n : Nat) : ByteArray := s.extract 0 (min s.size n)
theorem cutS_le (s : ByteArray) (n : Nat) : (cutS s n).size ≤ n := by unfold cutS; rw [ByteArray.size_extract]; omega
theorem cut_calls (s : ByteArray) (n : Nat) (w : World) (hn : n ≤ 1000000) : Calls Try.prog 10 #[.string s, .int .i64 (n : Int)] w fun e w' => e = .returned (.string (cutS s n)) ∧ Below w.heap.size w w' := by
  refine PBytesBack.bedrocklaw04_cut.calls s (n : Int) _ w ?_
  have e : mn (s.size : Int) (n : Int) = ((min s.size n : Nat) : Int) := by unfold mn; split <;> omega
  unfold PBytesBack.bedrocklaw04_cut.f cutS
  rw [e, if_pos (by omega), if_pos (by omega)]
  simp
end Go.Proofs.Ythgahepldlicbaa.BP
