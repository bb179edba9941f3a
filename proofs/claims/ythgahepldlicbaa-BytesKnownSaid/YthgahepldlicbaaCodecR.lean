/- What PutText, PutFixed and the reference's Num, Int, Text, Fixed compute, in the words of Codec. -/
import Derived.Test.YthgahepldlicbaaBStrW
import Derived.Test.YthgahepldlicbaaPBytesBackx1
import Derived.Test.YthgahepldlicbaaPBytesLayx1
namespace Go.Proofs.Ythgahepldlicbaa.CR
open Go.RowKit Go.Proofs.YthgahepldlicbaaW.PrintWords Go.Proofs.YthgahepldlicbaaW.PrintLast Go.Proofs.YthgahepldlicbaaW.PrintMore Go.Proofs.Ythgahepldlicbaa.CD Go.Proofs.Ythgahepldlicbaa.BR
set_option linter.unusedVariables false
set_option linter.unusedSimpArgs false

theorem num_l0 : ∀ (k j n : Nat) (x : List Int), n < 128 ^ (k + 1) → n < 18446744073709551616 → x.length + k < 140737488355328 → k < j → PBytesLay.bedrockref04_Num.l0 j (n : Int) x = some (x ++ numF k n)
  | 0, j, n, x, hn, h64, hx, hj => by
    obtain ⟨j, rfl⟩ : ∃ m, j = m + 1 := ⟨j - 1, by omega⟩
    simp only [PBytesLay.bedrockref04_Num.l0, numF]
    rw [if_neg (by omega), if_pos (by omega), show ((n : Int) % 256) = (n : Int) by omega]
  | k + 1, j, n, x, hn, h64, hx, hj => by
    obtain ⟨j, rfl⟩ : ∃ m, j = m + 1 := ⟨j - 1, by omega⟩
    simp only [PBytesLay.bedrockref04_Num.l0]
    by_cases h : n < 128
    · rw [numF_small _ _ h, if_neg (by omega), if_pos (by omega), show ((n : Int) % 256) = (n : Int) by omega]
    · have e1 : IntKind.u64.wrap (Int.tdiv (n : Int) 128) = ((n / 128 : Nat) : Int) := by
        rw [Int.tdiv_eq_ediv_of_nonneg (by omega), CF.wu64]; omega
      have e2 : (IntKind.u64.wrap ((Int.tmod (n : Int) 128) + 128)) % 256 = ((n % 128 + 128 : Nat) : Int) := by
        rw [Int.tmod_eq_emod_of_nonneg (by omega), CF.wu64]; omega
      rw [numF_big k n (by omega), if_pos (by omega), if_pos (by omega), e1, e2]
      clear e1 e2
      rw [num_l0 k j (n / 128) _ (by rw [Nat.pow_succ] at hn; omega) (by omega) (by simp; omega) (by omega)]
      simp
theorem num_f (n : Nat) (hn : n < 18446744073709551616) : PBytesLay.bedrockref04_Num.f 12 (n : Int) = some (num n) := by
  unfold PBytesLay.bedrockref04_Num.f
  rw [num_l0 9 12 n [] (by omega) hn (by simp) (by omega)]
  rfl
theorem ob_of {P : Type} {f : Nat} {args : Array Value} {w : World} {r : List Int} (h : Calls Try.prog f args w fun e w' => ∃ v0_ : Value, e = .returned v0_ ∧ Kd.R (Kd.int .u8) 5 w' w.heap.size (fun _ => True) v0_ r ∧ Below w.heap.size w w') :
    Calls Try.prog f args w fun e w' => ∃ v, e = .returned v ∧ OB w' w.heap.size v r ∧ Below w.heap.size w w' := h.mono fun e w' ⟨v, he, hR, hb⟩ => ⟨v, he, OB.of_R hR, hb⟩
theorem refNum_calls (n : Nat) (w : World) (hn : n < 18446744073709551616) : Calls Try.prog 15 #[.int .u64 (n : Int)] w fun e w' => ∃ v, e = .returned v ∧ OB w' w.heap.size v (num n) ∧ Below w.heap.size w w' :=
  ob_of (P := Unit) (PBytesLay.bedrockref04_Num.calls 12 (n : Int) _ w (num_f n hn))
theorem turned_f (i : Int) (h : -9223372036854775808 ≤ i ∧ i < 9223372036854775808) : PBytesLay.bedrockref04_Turned.f i = some (zig i : Int) := by
  unfold PBytesLay.bedrockref04_Turned.f zig
  by_cases h0 : 0 ≤ i
  · rw [if_pos h0, if_pos h0]
    congr 1
    rw [CF.wu64, CF.wu64]; omega
  · rw [if_neg (by omega), if_neg h0]
    congr 1
    have e : wrap64 (-(wrap64 (i + 1))) = -(i + 1) := by unfold wrap64; omega
    rw [e, CF.wu64, CF.wu64, CF.wu64]; omega
theorem refInt_calls (i : Int) (w : World) (h : -9223372036854775808 ≤ i ∧ i < 9223372036854775808) : Calls Try.prog 16 #[.int .i64 i] w fun e w' => ∃ v, e = .returned v ∧ OB w' w.heap.size v (num (zig i)) ∧ Below w.heap.size w w' := by
  refine ob_of (P := Unit) (PBytesLay.bedrockref04_Int.calls 12 i _ w ?_)
  unfold PBytesLay.bedrockref04_Int.f
  have h1 : PBytesLay.bedrockref04_Turned.f i = some (zig i : Int) := turned_f i h
  have h2 : PBytesLay.bedrockref04_Num.f 12 (zig i : Int) = some (num (zig i)) := num_f (zig i) (zig_lt i h)
  rw [h1]
  simp only [Option.bind_some]
  rw [h2]
  rfl
theorem bt_bytesOf (s : ByteArray) (i : Nat) : bt s (i : Int) = (bytesOf s).getD i 0 := by rw [← rd_bytesOf]; simp [rd]
theorem text_l0 (s : ByteArray) (hs : s.size ≤ 140737488350000) : ∀ (d k i : Nat) (x : List Int), d = s.size - i → i ≤ s.size → x.length + d < 140737488355328 → d < k → PBytesLay.bedrockref04_Text.l0 k s x (i : Int) = some (x ++ (bytesOf s).drop i)
  | 0, k, i, x, hd, hi, hx, hk => by
    obtain ⟨k, rfl⟩ : ∃ m, k = m + 1 := ⟨k - 1, by omega⟩
    simp only [PBytesLay.bedrockref04_Text.l0]
    rw [if_neg (by omega), List.drop_eq_nil_of_le (by rw [bytesOf_length]; omega), List.append_nil]
  | d + 1, k, i, x, hd, hi, hx, hk => by
    obtain ⟨k, rfl⟩ : ∃ m, k = m + 1 := ⟨k - 1, by omega⟩
    have hl : i < (bytesOf s).length := by rw [bytesOf_length]; omega
    simp only [PBytesLay.bedrockref04_Text.l0]
    rw [if_pos (by omega), if_pos (by omega), if_pos (by omega), show wrap64 ((i : Int) + 1) = ((i + 1 : Nat) : Int) by unfold wrap64; omega]
    rw [text_l0 s hs d k (i + 1) _ (by omega) (by omega) (by simp; omega) (by omega), bt_bytesOf, List.drop_eq_getElem_cons hl]
    simp [List.getD_eq_getElem?_getD, List.getElem?_eq_getElem hl]
theorem refText_calls (s : ByteArray) (w : World) (h : s.size ≤ 140737488350000) : Calls Try.prog 17 #[.string s] w fun e w' => ∃ v, e = .returned v ∧ OB w' w.heap.size v (num s.size ++ bytesOf s) ∧ Below w.heap.size w w' := by
  refine ob_of (P := Unit) (PBytesLay.bedrockref04_Text.calls (s.size + 12) s _ w ?_)
  unfold PBytesLay.bedrockref04_Text.f
  have e : IntKind.u64.wrap (s.size : Int) = (s.size : Int) := by rw [CF.wu64]; omega
  have h2 : PBytesLay.bedrockref04_Num.f (s.size + 12) (s.size : Int) = some (num s.size) := at_rounds (PBytesLay.bedrockref04_Num.mono _) (by omega) (num_f s.size (by omega))
  rw [e, h2]
  simp only [Option.bind_some]
  have := text_l0 s h s.size (s.size + 12) 0 (num s.size) (by omega) (by omega) (by have := num_le s.size; omega) (by omega)
  rw [List.drop_zero] at this
  exact this
theorem putText_calls (A : Option Addr) (c : Nat) (l : List Int) (s : ByteArray) (w : World) (hr : ReadsInt w .u8 A l.length l) (hc : l.length ≤ c) (hs : s.size ≤ 100000) (hl : l.length < 140737488000000) :
    Calls Try.prog 13 #[.slice A l.length c, .string s] w fun e w' => ∃ v, e = .returned v ∧ OB w' w.heap.size v (l ++ (num s.size ++ bytesOf s)) ∧ Below w.heap.size w w' := by
  refine ob_of (P := Unit) (PBytesBack.bytes_PutText.calls 12 A c l s _ w (Kd.C_of_reads (d := (0 : Int)) (h1 := fun _ => rfl) hr) hc ?_)
  unfold PBytesBack.bytes_PutText.f
  have e : IntKind.u64.wrap (s.size : Int) = (s.size : Int) := by rw [CF.wu64]; omega
  have h2 : PBytesBack.bytes_Put.f 12 l (s.size : Int) = some (l ++ num s.size) := CF.put_f s.size l (by omega) (by omega)
  rw [e, h2]
  simp only [Option.bind_some]
  rw [if_pos (by rw [List.length_append]; have := num_le s.size; omega), List.append_assoc]
theorem fixed_l0 : ∀ (d j w i n : Nat) (x : List Int), d = w - i → i ≤ w → w ≤ 100 → x.length + d < 140737488355328 → d < j → PBytesBack.bytes_PutFixed.l0 j (n : Int) x (w : Int) (i : Int) = some (x ++ fixed d n)
  | 0, j, w, i, n, x, hd, hi, hw, hx, hj => by
    obtain ⟨j, rfl⟩ : ∃ m, j = m + 1 := ⟨j - 1, by omega⟩
    simp only [PBytesBack.bytes_PutFixed.l0, fixed]
    rw [if_neg (by omega), List.append_nil]
  | d + 1, j, w, i, n, x, hd, hi, hw, hx, hj => by
    obtain ⟨j, rfl⟩ : ∃ m, j = m + 1 := ⟨j - 1, by omega⟩
    simp only [PBytesBack.bytes_PutFixed.l0, fixed]
    rw [if_pos (by omega), if_pos (by omega), show wrap64 ((i : Int) + 1) = ((i + 1 : Nat) : Int) by unfold wrap64; omega, show ((n : Int) / 256) = ((n / 256 : Nat) : Int) by omega, show ((n : Int) % 256) = ((n % 256 : Nat) : Int) by omega]
    rw [fixed_l0 d j w (i + 1) (n / 256) _ (by omega) (by omega) hw (by simp; omega) (by omega)]
    simp
/-- A number of a width; none of another width. -/
def fixW (n : Nat) (width : Int) : List Int := if width < 1 ∨ width > 8 then [] else fixed width.toNat n
theorem fixW_le (n : Nat) (width : Int) : (fixW n width).length ≤ 8 := by
  unfold fixW
  split
  · simp
  · rw [fixed_length]; omega
theorem fixW_bytes (n : Nat) (width : Int) : Bytes (fixW n width) := by
  unfold fixW
  split
  · exact Bytes.nil
  · exact fixed_bytes _ _
theorem putFixed_f (n : Nat) (l : List Int) (width : Int) (hl : l.length < 140737488355000) : PBytesBack.bytes_PutFixed.f 12 l (n : Int) width = some (l ++ fixW n width) := by
  unfold PBytesBack.bytes_PutFixed.f fixW
  simp only [Option.bind_some, List.length_nil, Nat.zero_add, List.nil_append]
  rw [if_pos (by omega)]
  by_cases h1 : width < 1
  · rw [if_pos h1, if_pos (.inl h1)]
    simp only [PBytesBack.bytes_PutFixed.j0, if_true, List.append_nil]
  · rw [if_neg h1]
    by_cases h8 : width > 8
    · rw [if_pos (.inr h8), decide_eq_true h8]
      simp only [PBytesBack.bytes_PutFixed.j0, if_true, List.append_nil]
    · rw [if_neg (by omega), decide_eq_false h8]
      simp only [PBytesBack.bytes_PutFixed.j0, Bool.false_eq_true, if_false]
      have := fixed_l0 width.toNat 11 width.toNat 0 n l (by omega) (by omega) (by omega) (by omega) (by omega)
      rw [show ((width.toNat : Nat) : Int) = width by omega] at this
      exact this
theorem putFixed_calls (A : Option Addr) (c : Nat) (l : List Int) (n : Nat) (width : Int) (w : World) (hr : ReadsInt w .u8 A l.length l) (hc : l.length ≤ c) (hl : l.length < 140737488355000) :
    Calls Try.prog 14 #[.slice A l.length c, .int .u64 (n : Int), .int .i64 width] w fun e w' => ∃ v, e = .returned v ∧ OB w' w.heap.size v (l ++ fixW n width) ∧ Below w.heap.size w w' :=
  ob_of (P := Unit) (PBytesBack.bytes_PutFixed.calls 12 A c l (n : Int) width _ w (Kd.C_of_reads (d := (0 : Int)) (h1 := fun _ => rfl) hr) hc (putFixed_f n l width hl))
theorem refFixed_l0 : ∀ (d j w i n : Nat) (x : List Int), d = w - i → i ≤ w → w ≤ 100 → n < 18446744073709551616 → x.length + d < 140737488355328 → d < j → PBytesLay.bedrockref04_Fixed.l0 j (n : Int) (w : Int) x (i : Int) = some (x ++ fixed d n)
  | 0, j, w, i, n, x, hd, hi, hw, hn, hx, hj => by
    obtain ⟨j, rfl⟩ : ∃ m, j = m + 1 := ⟨j - 1, by omega⟩
    simp only [PBytesLay.bedrockref04_Fixed.l0, fixed]
    rw [if_neg (by omega), List.append_nil]
  | d + 1, j, w, i, n, x, hd, hi, hw, hn, hx, hj => by
    obtain ⟨j, rfl⟩ : ∃ m, j = m + 1 := ⟨j - 1, by omega⟩
    simp only [PBytesLay.bedrockref04_Fixed.l0, fixed]
    have e1 : IntKind.u64.wrap (Int.tdiv (n : Int) 256) = ((n / 256 : Nat) : Int) := by
      rw [Int.tdiv_eq_ediv_of_nonneg (by omega), CF.wu64]; omega
    have e2 : (Int.tmod (n : Int) 256) % 256 = ((n % 256 : Nat) : Int) := by
      rw [Int.tmod_eq_emod_of_nonneg (by omega)]; omega
    rw [if_pos (by omega), if_pos (by omega), show wrap64 ((i : Int) + 1) = ((i + 1 : Nat) : Int) by unfold wrap64; omega, e1, e2]
    clear e1 e2
    rw [refFixed_l0 d j w (i + 1) (n / 256) _ (by omega) (by omega) hw (by omega) (by simp; omega) (by omega)]
    simp
theorem refFixed_calls (n : Nat) (width : Int) (w : World) (hn : n < 18446744073709551616) : Calls Try.prog 18 #[.int .u64 (n : Int), .int .i64 width] w fun e w' => ∃ v, e = .returned v ∧ OB w' w.heap.size v (fixW n width) ∧ Below w.heap.size w w' := by
  refine ob_of (P := Unit) (PBytesLay.bedrockref04_Fixed.calls 12 (n : Int) width _ w ?_)
  unfold PBytesLay.bedrockref04_Fixed.f fixW
  by_cases h1 : width < 1
  · rw [if_pos h1, if_pos (.inl h1)]
    simp only [PBytesLay.bedrockref04_Fixed.j0, if_true]
  · rw [if_neg h1]
    by_cases h8 : width > 8
    · rw [if_pos (.inr h8), decide_eq_true h8]
      simp only [PBytesLay.bedrockref04_Fixed.j0, if_true]
    · rw [if_neg (by omega), decide_eq_false h8]
      simp only [PBytesLay.bedrockref04_Fixed.j0, Bool.false_eq_true, if_false]
      have := refFixed_l0 width.toNat 11 width.toNat 0 n [] (by omega) (by omega) (by omega) hn (by simp; omega) (by omega)
      rw [show ((width.toNat : Nat) : Int) = width by omega] at this
      exact this
end Go.Proofs.Ythgahepldlicbaa.CR
