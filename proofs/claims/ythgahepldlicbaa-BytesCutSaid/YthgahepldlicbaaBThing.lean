/- A thing's bytes; laying one thing; reading one back. -/
import Derived.Test.YthgahepldlicbaaCodecR
import Derived.Test.YthgahepldlicbaaBCut
import Derived.Test.YthgahepldlicbaaBOwn
import Derived.Test.YthgahepldlicbaaBAsk
import Derived.Test.YthgahepldlicbaaBRdrInt
import Derived.Test.YthgahepldlicbaaBRdrText
import Derived.Test.YthgahepldlicbaaBRdrFixed
namespace Go.Proofs.Ythgahepldlicbaa.BP
open Go.RowKit Go.Proofs.YthgahepldlicbaaW.PrintWords Go.Proofs.YthgahepldlicbaaW.PrintLast Go.Proofs.YthgahepldlicbaaW.PrintMore Go.Proofs.Ythgahepldlicbaa.CD Go.Proofs.Ythgahepldlicbaa.BR Go.Proofs.Ythgahepldlicbaa.CR
set_option linter.unusedVariables false
set_option linter.unusedSimpArgs false
theorem OB.base {w : World} {b b' : Nat} {v : Value} {l : List Int} (h : OB w b v l) (hb : b' ≤ b) : OB w b' v l := by
  refine ⟨h.1, ?_⟩
  rcases h.2 with h' | ⟨g, cap, cur, hv, hg, hh, hr⟩
  · exact .inl h'
  · exact .inr ⟨g, cap, cur, hv, Nat.le_trans hb hg, hh, hr⟩
/-- What is laid: its kind, its number, its text. -/
abbrev Thing := Int × Nat × ByteArray
def tEnc (q : Thing) : List Int := if Int.tmod q.1 4 = 0 then num q.2.1 else if Int.tmod q.1 4 = 1 then num (zig (wrap64 (q.2.1 : Int))) else if Int.tmod q.1 4 = 2 then num (cutS q.2.2 200).size ++ bytesOf (cutS q.2.2 200) else fixed 4 q.2.1
def rBack (s : St) (q : Thing) : Bool × St := if Int.tmod q.1 4 = 0 then (((rNum s).1 : Int) == (q.2.1 : Int), (rNum s).2) else if Int.tmod q.1 4 = 1 then ((rInt s).1 == wrap64 (q.2.1 : Int), (rInt s).2) else if Int.tmod q.1 4 = 2 then ((strOfNums (rText s 200).1).toList == (cutS q.2.2 200).toList, (rText s 200).2) else (((rFixed s 4).1 : Int) == Int.tmod (q.2.1 : Int) 4294967296, (rFixed s 4).2)
theorem wrap64_range (x : Int) : -9223372036854775808 ≤ wrap64 x ∧ wrap64 x < 9223372036854775808 := by unfold wrap64; omega
theorem fixW4 (n : Nat) : fixW n 4 = fixed 4 n := by unfold fixW; rfl
theorem tEnc_len (q : Thing) : (tEnc q).length ≤ 210 := by
  unfold tEnc
  split
  · have := num_le q.2.1; omega
  split
  · have := num_le (zig (wrap64 (q.2.1 : Int))); omega
  split
  · rw [List.length_append, bytesOf_length]; have := num_le (cutS q.2.2 200).size; have := cutS_le q.2.2 200; omega
  · rw [fixed_length]; omega
theorem tEnc_pos (q : Thing) : 1 ≤ (tEnc q).length := by
  unfold tEnc
  split
  · exact num_pos _
  split
  · exact num_pos _
  split
  · rw [List.length_append]; have := num_pos (cutS q.2.2 200).size; omega
  · rw [fixed_length]; omega
theorem tEnc_bytes (q : Thing) (hn : q.2.1 < 18446744073709551616) : Bytes (tEnc q) := by
  unfold tEnc
  split
  · exact num_bytes _ hn
  split
  · exact num_bytes _ (zig_lt _ (wrap64_range _))
  split
  · exact (num_bytes _ (by have := cutS_le q.2.2 200; omega)).append (BS.bytes_bytesOf _)
  · exact fixed_bytes _ _
theorem rNum_ok (n : Nat) (rest : List Int) (hn : n < 18446744073709551616) : rNum (num n ++ rest, false) = (n, (rest, false)) := by
  unfold rNum
  have hp := num_pos n
  simp only [Bool.false_eq_true, if_false]
  rw [dec_num n rest hn]
  simp only
  rw [if_neg (by omega), List.drop_left]
theorem rInt_ok (i : Int) (rest : List Int) (hi : -9223372036854775808 ≤ i ∧ i < 9223372036854775808) : (((rInt (num (zig i) ++ rest, false)).1 == i, (rInt (num (zig i) ++ rest, false)).2) : Bool × St) = (true, (rest, false)) := by
  have e : rInt (num (zig i) ++ rest, false) = (i, (rest, false)) := by
    unfold rInt
    rw [rNum_ok _ _ (zig_lt i hi)]
    show (zag (zig i), (rest, false)) = (i, (rest, false))
    rw [zag_zig]
  rw [e, beq_self_eq_true]
theorem back_ok (q : Thing) (rest : List Int) (hn : q.2.1 < 18446744073709551616) : rBack (tEnc q ++ rest, false) q = (true, (rest, false)) := by
  unfold rBack tEnc
  by_cases h0 : Int.tmod q.1 4 = 0
  · rw [if_pos h0, if_pos h0, rNum_ok _ _ hn]; simp
  · rw [if_neg h0, if_neg h0]
    by_cases h1 : Int.tmod q.1 4 = 1
    · rw [if_pos h1, if_pos h1]
      exact rInt_ok _ rest (wrap64_range _)
    · rw [if_neg h1, if_neg h1]
      by_cases h2 : Int.tmod q.1 4 = 2
      · rw [if_pos h2, if_pos h2]
        obtain ⟨u, hu⟩ : ∃ u, u = cutS q.2.2 200 := ⟨_, rfl⟩
        have hl : u.size ≤ 200 := by rw [hu]; exact cutS_le _ _
        rw [← hu]
        have hp := num_pos u.size
        have e : rText ((num u.size ++ bytesOf u) ++ rest, false) 200 = (bytesOf u, (rest, false)) := by
          unfold rText
          simp only [Bool.false_eq_true, if_false]
          rw [List.append_assoc, dec_num u.size _ (by omega)]
          simp only
          rw [if_neg (by rw [List.length_append, List.length_append, bytesOf_length]; omega), List.drop_left]
          have e1 : (bytesOf u ++ rest).take u.size = bytesOf u := by rw [← bytesOf_length u]; exact List.take_left
          have e2 : (num u.size ++ (bytesOf u ++ rest)).drop ((num u.size).length + u.size) = rest := by
            rw [← List.append_assoc, ← bytesOf_length u, ← List.length_append]; exact List.drop_left
          rw [e1, e2]
        rw [e]
        simp only [BS.str_bytesOf]
        rw [BS.beq_same]
      · rw [if_neg h2, if_neg h2]
        have e : rFixed (fixed 4 q.2.1 ++ rest, false) 4 = (q.2.1 % 4294967296, (rest, false)) := by
          unfold rFixed
          simp only [Bool.false_eq_true, if_false]
          rw [if_neg (by rw [List.length_append, fixed_length]; omega)]
          have e1 : (fixed 4 q.2.1 ++ rest).take (4 : Int).toNat = fixed 4 q.2.1 := List.take_left' (by rw [fixed_length]; rfl)
          have e2 : (fixed 4 q.2.1 ++ rest).drop (4 : Int).toNat = rest := List.drop_left' (by rw [fixed_length]; rfl)
          have e3 : (256 : Nat) ^ 4 = 4294967296 := by decide
          rw [e1, e2, unfixed_fixed, e3]
        rw [e]
        simp only [beq_iff_eq, Prod.mk.injEq, and_true]
        rw [Int.tmod_eq_emod_of_nonneg (by omega)]; omega
theorem rNum_cut (n j : Nat) (hn : n < 18446744073709551616) (hj : j < (num n).length) : (rNum ((num n).take j, false)).2.2 = true := by
  unfold rNum
  simp only [Bool.false_eq_true, if_false]
  rw [dec_cut n j hn hj]
  simp
theorem back_cut (q : Thing) (j : Nat) (hn : q.2.1 < 18446744073709551616) (hj : j < (tEnc q).length) : (rBack ((tEnc q).take j, false) q).2.2 = true := by
  unfold rBack
  unfold tEnc at hj ⊢
  by_cases h0 : Int.tmod q.1 4 = 0
  · rw [if_pos h0] at hj ⊢; rw [if_pos h0]; exact rNum_cut _ _ hn hj
  · rw [if_neg h0] at hj ⊢; rw [if_neg h0]
    by_cases h1 : Int.tmod q.1 4 = 1
    · rw [if_pos h1] at hj ⊢; rw [if_pos h1]
      exact rNum_cut _ _ (zig_lt _ (wrap64_range _)) hj
    · rw [if_neg h1] at hj ⊢; rw [if_neg h1]
      by_cases h2 : Int.tmod q.1 4 = 2
      · rw [if_pos h2] at hj ⊢; rw [if_pos h2]
        obtain ⟨u, hu⟩ : ∃ u, u = cutS q.2.2 200 := ⟨_, rfl⟩
        have hl : u.size ≤ 200 := by rw [hu]; exact cutS_le _ _
        rw [← hu] at hj ⊢
        unfold rText
        simp only [Bool.false_eq_true, if_false]
        rw [List.length_append, bytesOf_length] at hj
        by_cases hc : j < (num u.size).length
        · rw [List.take_append_of_le_length (by omega), dec_cut _ _ (by omega) hc]; simp
        · have e : (num u.size ++ bytesOf u).take j = num u.size ++ (bytesOf u).take (j - (num u.size).length) := by
            rw [List.take_append, List.take_of_length_le (by omega)]
          rw [e, dec_num _ _ (by omega)]
          simp only
          rw [if_pos (by rw [List.length_append, List.length_take, bytesOf_length]; omega)]
      · rw [if_neg h2] at hj ⊢; rw [if_neg h2]
        rw [fixed_length] at hj
        unfold rFixed
        simp only [Bool.false_eq_true, if_false]
        rw [if_pos (by rw [List.length_take, fixed_length]; omega)]
end Go.Proofs.Ythgahepldlicbaa.BP
