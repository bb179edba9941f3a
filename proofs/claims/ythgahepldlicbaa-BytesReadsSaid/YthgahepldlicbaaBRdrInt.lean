/- Walk of a reader's Int (through a method value). -/
import Derived.Test.YthgahepldlicbaaBRdr2
namespace Go.Proofs.Ythgahepldlicbaa.BR
open Go.RowKit Go.Proofs.YthgahepldlicbaaW.PrintWords Go.Proofs.YthgahepldlicbaaW.PrintLast Go.Proofs.YthgahepldlicbaaW.PrintMore Go.Proofs.Ythgahepldlicbaa.CD
set_option linter.unusedVariables false
set_option linter.unusedSimpArgs false
theorem xor0 (a : Nat) (ha : a < 9223372036854775808) : bits .xor .i64 (a : Int) 0 = (a : Int) := by
  have ha' : a % 2 ^ IntKind.i64.bits = a := Nat.mod_eq_of_lt (by simp only [IntKind.bits]; omega)
  simp only [bits, BitVec.ofInt_natCast, show BitVec.ofInt IntKind.i64.bits 0 = 0#_ from rfl, BitVec.xor_zero, BitVec.toNat_ofNat, ha']
  rw [IntKind.wrap_i64]; omega
theorem xor1 (a : Nat) (ha : a < 9223372036854775808) : bits .xor .i64 (a : Int) (-1) = -(a : Int) - 1 := by
  have ha' : a % 2 ^ 64 = a := Nat.mod_eq_of_lt (by omega)
  have h1 : BitVec.ofInt 64 (-1) = BitVec.allOnes 64 := by decide
  show IntKind.i64.wrap ((BitVec.ofInt 64 (a : Int) ^^^ BitVec.ofInt 64 (-1)).toNat : Int) = _
  rw [h1, BitVec.ofInt_natCast, BitVec.xor_allOnes, BitVec.toNat_not, BitVec.toNat_ofNat, ha', IntKind.wrap_i64]
  omega
theorem and1 (n : Nat) (hn : n < 18446744073709551616) : bits .and .u64 (n : Int) 1 = ((n % 2 : Nat) : Int) := by
  have := bits_mask .u64 64 (by decide) (fun n a b => by simp [IntKind.wrap, IntKind.bits, IntKind.signed]; omega) 1 (by decide) (n : Int) (by omega) (by omega)
  rw [show (2 : Int) ^ 1 - 1 = 1 by decide, show (2 : Int) ^ 1 = 2 by decide] at this
  rw [this]; omega
theorem xor_zag (n : Nat) (hn : n < 18446744073709551616) : bits .xor .i64 (wrap64 ((n : Int) / 2)) (wrap64 (-(wrap64 (bits .and .u64 (n : Int) 1)))) = zag n := by
  have e : wrap64 ((n : Int) / 2) = ((n / 2 : Nat) : Int) := by unfold wrap64; omega
  rw [and1 n hn, e]
  unfold zag
  by_cases h : n % 2 = 0
  · rw [if_pos h, h, show wrap64 (-(wrap64 ((0 : Nat) : Int))) = 0 by decide +kernel]
    exact xor0 _ (by omega)
  · rw [if_neg h, show n % 2 = 1 by omega, show wrap64 (-(wrap64 ((1 : Nat) : Int))) = -1 by decide +kernel]
    exact xor1 _ (by omega)
theorem rNum_lt (s : St) (h : Bytes s.1) : (rNum s).1 < 18446744073709551616 := by
  unfold rNum
  split
  · simp
  · split
    · simp
    · rename_i hk
      exact (dec_back s.1 h _ _ rfl hk).1
def rInt (s : St) : Int × St := if s.2 then (0, s) else (zag (rNum s).1, (rNum s).2)
theorem turned_calls (g : Nat) (xs : List Int) (br : Bool) (w : World) (h : Rdr w g xs br) :
    Calls Try.prog 37 #[.pointer (some ⟨g, 0, none⟩), .func (.func 21) #[.pointer (some ⟨g, 0, none⟩)] #[]] w fun e w' => e = .returned (.int .i64 (zag (rNum (xs, br)).1)) ∧ Rdr w' g (rNum (xs, br)).2.1 (rNum (xs, br)).2.2 ∧ w.grownBy w' (some g) := by
  have H := Lib.hid h
  clear h
  obtain ⟨q, hq⟩ : ∃ q, q = rNum (xs, br) := ⟨_, rfl⟩
  have HN0 := num_calls g xs br w H.out
  rw [← hq] at HN0 ⊢
  have HN := Lib.hid HN0
  have hql : q.1 < 18446744073709551616 := by rw [hq]; exact rNum_lt _ H.out.bytes
  have Hql := Lib.hid hql
  clear hq HN0 hql
  go_enter Try.func37, Try.ntmps37
  go_wp2_with (refine HN.out.mono ?_; rintro e w' ⟨rfl, hr, hg⟩)
  go_ret
  exact ⟨by rw [← xor_zag _ Hql.out]; rfl, hr, hg⟩
theorem int_calls (g : Nat) (xs : List Int) (br : Bool) (w : World) (h : Rdr w g xs br) :
    Calls Try.prog 24 #[.pointer (some ⟨g, 0, none⟩)] w fun e w' => e = .returned (.int .i64 (rInt (xs, br)).1) ∧ Rdr w' g (rInt (xs, br)).2.1 (rInt (xs, br)).2.2 ∧ w.grownBy w' (some g) := by
  have H := Lib.hid h
  clear h
  cases br with
  | true =>
    unfold rInt
    go_enter Try.func24, Try.ntmps24
    go_wp2_with (go_at_call 35; refine (fine_calls g xs true _ H.out).mono ?_; rintro e w' ⟨rfl, ⟨nd, rfl⟩⟩)
    go_ret
    exact ⟨rfl, H.out.drewN _, gdrewN (World.grownBy.refl _ _) _⟩
  | false =>
    have e : rInt (xs, false) = (zag (rNum (xs, false)).1, (rNum (xs, false)).2) := rfl
    rw [e]
    obtain ⟨q, hq⟩ : ∃ q, q = rNum (xs, false) := ⟨_, rfl⟩
    have HT0 := fun w' (h' : Rdr w' g xs false) => turned_calls g xs false w' h'
    rw [← hq] at HT0 ⊢
    have HT := Lib.hid HT0
    clear hq HT0 e
    go_enter Try.func24, Try.ntmps24
    go_wp2_with (first | (go_at_call 35; refine (fine_calls g xs false _ H.out).mono ?_; rintro e w' ⟨rfl, ⟨nd, rfl⟩⟩) | (go_at_call 37; refine (HT.out _ (H.out.drewN _)).mono ?_; rintro e w' ⟨rfl, hr, hg⟩))
    go_ret
    exact ⟨rfl, hr, gtrans (gdrewN (World.grownBy.refl _ _) _) hg⟩
end Go.Proofs.Ythgahepldlicbaa.BR
