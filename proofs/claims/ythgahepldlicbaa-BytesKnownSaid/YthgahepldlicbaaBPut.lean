/- What the functions of package bytes that lay numbers answer, in the words of Codec; and the law's own short helpers. -/
import Derived.Test.YthgahepldlicbaaBRdr2
import Derived.Test.YthgahepldlicbaaBStr
namespace Go.Proofs.Ythgahepldlicbaa.BP
open Go.RowKit Go.Proofs.YthgahepldlicbaaW.PrintWords Go.Proofs.YthgahepldlicbaaW.PrintLast Go.Proofs.YthgahepldlicbaaW.PrintMore Go.Proofs.Ythgahepldlicbaa.CD Go.Proofs.Ythgahepldlicbaa.BR
set_option linter.unusedVariables false
set_option linter.unusedSimpArgs false
theorem put_calls (A : Option Addr) (c : Nat) (l : List Int) (n : Nat) (w : World) (hr : ReadsInt w .u8 A l.length l) (hc : l.length ≤ c) (hn : n < 18446744073709551616) (hl : l.length < 140737488355000) :
    Calls Try.prog 11 #[.slice A l.length c, .int .u64 (n : Int)] w fun e w' => ∃ v, e = .returned v ∧ OB w' w.heap.size v (l ++ num n) ∧ Below w.heap.size w w' :=
  (PBytesBack.bytes_Put.calls 12 A c l (n : Int) _ w (Kd.C_of_reads (d := (0 : Int)) (h1 := fun _ => rfl) hr) hc (CF.put_f n l hn hl)).mono fun e w' ⟨v, he, hR, hb⟩ => ⟨v, he, OB.of_R hR, hb⟩
theorem put_nil (n : Nat) (w : World) (hn : n < 18446744073709551616) :
    Calls Try.prog 11 #[.slice none 0 0, .int .u64 (n : Int)] w fun e w' => ∃ v, e = .returned v ∧ OB w' w.heap.size v (num n) ∧ Below w.heap.size w w' :=
  put_calls none 0 [] n w ⟨rfl, by decide, fun h => absurd h (by decide)⟩ (Nat.le_refl _) hn (by decide)
end Go.Proofs.Ythgahepldlicbaa.BP
