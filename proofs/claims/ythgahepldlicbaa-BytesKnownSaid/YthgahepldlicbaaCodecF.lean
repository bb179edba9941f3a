/- What the printed functions of package bytes and of its reference compute, in the words of Codec. -/
import Derived.Test.YthgahepldlicbaaPBytesBackx1
import Derived.Test.YthgahepldlicbaaCodec
namespace Go.Proofs.Ythgahepldlicbaa.CF
open Go.RowKit Go.Proofs.YthgahepldlicbaaW.PrintWords Go.Proofs.YthgahepldlicbaaW.PrintLast Go.Proofs.YthgahepldlicbaaW.PrintMore Go.Proofs.Ythgahepldlicbaa.CD
set_option linter.unusedVariables false
set_option linter.unusedSimpArgs false

theorem wu64 (n : Int) : IntKind.u64.wrap n = n % 18446744073709551616 := by simp [IntKind.wrap, IntKind.bits, IntKind.signed]
theorem wu64_id (n : Int) (h0 : 0 ≤ n) (h1 : n < 18446744073709551616) : IntKind.u64.wrap n = n := by rw [wu64]; omega
theorem or128 (x : Nat) : bits .or .u8 ((x : Int) % 256) 128 = ((x % 128 + 128 : Nat) : Int) := by
  have h : ∀ a : Fin 256, a.val ||| 128 = a.val % 128 + 128 := by decide +kernel
  have e : ((x : Int) % 256) = ((x % 256 : Nat) : Int) := by omega
  rw [e, show (128 : Int) = ((128 : Nat) : Int) from rfl, (bits_nat .u8 8 (by decide) wraps_u8 (x % 256) 128 (by omega) (by decide)).2, h ⟨x % 256, by omega⟩]
  show ((x % 256 % 128 + 128 : Nat) : Int) = _
  omega
theorem and127 (x : Nat) (hx : x < 256) : bits .and .u8 (x : Int) 127 = ((x % 128 : Nat) : Int) := by
  have := bits_mask .u8 8 (by decide) wraps_u8 7 (by decide) (x : Int) (by omega) (by omega)
  rw [show (2 : Int) ^ 7 - 1 = 127 by decide, show (2 : Int) ^ 7 = 128 by decide] at this
  rw [this]; omega
theorem put_l0 : ∀ (k j n : Nat) (x : List Int), n < 128 ^ (k + 1) → x.length + k < 140737488355328 → k < j → PBytesBack.bytes_Put.l0 j (n : Int) x = some (x ++ numF k n)
  | 0, j, n, x, hn, hx, hj => by
    obtain ⟨j, rfl⟩ : ∃ m, j = m + 1 := ⟨j - 1, by omega⟩
    simp only [PBytesBack.bytes_Put.l0, numF]
    rw [if_neg (by omega), if_pos (by omega), show ((n : Int) % 256) = (n : Int) by omega]
  | k + 1, j, n, x, hn, hx, hj => by
    obtain ⟨j, rfl⟩ : ∃ m, j = m + 1 := ⟨j - 1, by omega⟩
    simp only [PBytesBack.bytes_Put.l0]
    by_cases h : n < 128
    · rw [numF_small _ _ h, if_neg (by omega), if_pos (by omega), show ((n : Int) % 256) = (n : Int) by omega]
    · rw [numF_big k n (by omega), if_pos (by omega), if_pos (by omega), or128, show ((n : Int) / 128) = ((n / 128 : Nat) : Int) by omega]
      rw [put_l0 k j (n / 128) _ (by rw [Nat.pow_succ] at hn; omega) (by simp; omega) (by omega)]
      simp
theorem put_f (n : Nat) (l : List Int) (hn : n < 18446744073709551616) (hl : l.length < 140737488355000) : PBytesBack.bytes_Put.f 12 l (n : Int) = some (l ++ num n) := by
  unfold PBytesBack.bytes_Put.f
  simp only [Option.bind_some, List.length_nil, Nat.zero_add, List.nil_append]
  rw [if_pos (by omega)]
  exact put_l0 9 12 n l (by omega) (by omega) (by omega)

theorem or_shl (acc c i : Nat) (ha : acc < 128 ^ i) (hi : i ≤ 9) (hc : c % 128 * 128 ^ i < 18446744073709551616) :
    bits .or .u64 (acc : Int) (shl .u64 (IntKind.u64.wrap ((c % 128 : Nat) : Int)) (7 * (i : Int))) = ((acc + c % 128 * 128 ^ i : Nat) : Int) := by
  have hp : (128 : Nat) ^ i = 2 ^ (7 * i) := by rw [show (128 : Nat) = 2 ^ 7 by decide, ← Nat.pow_mul]
  have hlt : acc < 18446744073709551616 := by
    have : 128 ^ i ≤ 128 ^ 9 := Nat.pow_le_pow_right (by decide) hi
    simp only [show (128 : Nat) ^ 9 = 9223372036854775808 by decide] at this
    omega
  have e1 : shl .u64 (IntKind.u64.wrap ((c % 128 : Nat) : Int)) (7 * (i : Int)) = ((c % 128 * 128 ^ i : Nat) : Int) := by
    unfold shl
    rw [wu64_id ((c % 128 : Nat) : Int) (by omega) (by omega), show (7 * (i : Int)).toNat = 7 * i by omega, Nat.min_eq_left (by simp only [IntKind.bits]; omega)]
    rw [show ((c % 128 : Nat) : Int) * 2 ^ (7 * i) = ((c % 128 * 128 ^ i : Nat) : Int) by rw [hp]; simp]
    exact wu64_id _ (by omega) (by omega)
  rw [e1, (bits_nat .u64 64 (by decide) (fun n a b => wu64_id n a (by simpa using b)) acc (c % 128 * 128 ^ i) (by omega) (by omega)).2]
  congr 1
  rw [Nat.or_comm, hp, Nat.mul_comm, ← Nat.two_pow_add_eq_or_of_lt (by rw [← hp]; exact ha) (c % 128)]
  omega

/-- Two numbers as the program has them. -/
def ints (p : Nat × Nat) : Int × Int := ((p.1 : Int), (p.2 : Int))
theorem number_l0 (L : List Int) (hL : Bytes L) (hlen : L.length ≤ 140737488355328) : ∀ (d : Nat) (k i acc : Nat), d = L.length - i → i ≤ L.length → i ≤ 9 → acc < 128 ^ i → 2 * d < k →
    PBytesBack.bytes_number.l0 k (acc : Int) L (L.length : Int) (i : Int) = some (ints (decF i acc (L.drop i)))
  | 0, k, i, acc, hd, hi, h9, ha, hk => by
    obtain ⟨k, rfl⟩ : ∃ m, k = m + 1 := ⟨k - 1, by omega⟩
    simp only [PBytesBack.bytes_number.l0]
    rw [if_neg (by omega), List.drop_eq_nil_of_le (by omega)]
    rfl
  | d + 1, k, i, acc, hd, hi, h9, ha, hk => by
    obtain ⟨k, rfl⟩ : ∃ m, k = m + 2 := ⟨k - 2, by omega⟩
    have hlt : i < L.length := by omega
    have hr : rd L (i : Int) = L[i] := by simp [rd, List.getD_eq_getElem?_getD, List.getElem?_eq_getElem hlt]
    obtain ⟨hc0, hc1⟩ := hL _ (List.getElem_mem hlt)
    obtain ⟨c, hc⟩ : ∃ c : Nat, L[i] = (c : Int) := ⟨L[i].toNat, by omega⟩
    rw [hc] at hc0 hc1 hr
    have q1 : (i : Int) < (L.length : Int) := by omega
    have q2 : 0 ≤ (i : Int) := by omega
    have q3 : (i : Int) = 9 → (i : Int) > 0 := by omega
    have F1 : (i : Int) = 9 → (c : Int) > 1 → (true = true ↔ (i = 9 ∧ (c : Int) > 1) ∨ (i > 0 ∧ (c : Int) = 0)) := fun a b => ⟨fun _ => by omega, fun _ => rfl⟩
    have F2 : (i : Int) = 9 → ¬ (c : Int) > 1 → (((c : Int) == 0) = true ↔ (i = 9 ∧ (c : Int) > 1) ∨ (i > 0 ∧ (c : Int) = 0)) := fun a b => by rw [beq_iff_eq]; omega
    have F3 : ¬ (i : Int) = 9 → (i : Int) > 0 → (((c : Int) == 0) = true ↔ (i = 9 ∧ (c : Int) > 1) ∨ (i > 0 ∧ (c : Int) = 0)) := fun a b => by rw [beq_iff_eq]; omega
    have F4 : ¬ (i : Int) = 9 → ¬ (i : Int) > 0 → (false = true ↔ (i = 9 ∧ (c : Int) > 1) ∨ (i > 0 ∧ (c : Int) = 0)) := fun a b => ⟨fun h => absurd h (by decide), fun h => by omega⟩
    have hw7 : wrap64 (7 * (i : Int)) = 7 * (i : Int) := by unfold wrap64; omega
    have hw1 : wrap64 ((i : Int) + 1) = ((i + 1 : Nat) : Int) := by unfold wrap64; omega
    have hdrop : L.drop i = (c : Int) :: L.drop (i + 1) := by rw [List.drop_eq_getElem_cons hlt, hc]
    have hj : ∀ b : Bool, (b = true ↔ (i = 9 ∧ (c : Int) > 1) ∨ (i > 0 ∧ (c : Int) = 0)) → PBytesBack.bytes_number.j1 (k + 1) (acc : Int) (i : Int) (c : Int) L (L.length : Int) (i : Int) b = some (ints (decF i acc (L.drop i))) := by
      intro b hb
      simp only [PBytesBack.bytes_number.j1, hw7, hw1]
      rw [hdrop]
      clear hw7 hw1 hr hdrop F1 F2 F3 F4
      simp only [decF]
      by_cases hbt : b = true
      · rw [if_pos hbt, if_pos (hb.1 hbt)]
        rfl
      · have hnot := fun h => hbt (hb.2 h)
        have hfit : c % 128 * 128 ^ i < 18446744073709551616 := by
          by_cases h9' : i = 9
          · have : c ≤ 1 := Nat.le_of_not_lt (fun h => hnot (.inl ⟨h9', by omega⟩))
            rw [h9', show (128 : Nat) ^ 9 = 9223372036854775808 by decide]; omega
          · have h3 : 128 ^ i ≤ 128 ^ 8 := Nat.pow_le_pow_right (by decide) (by omega)
            have h4 : c % 128 * 128 ^ i ≤ 127 * 128 ^ 8 := Nat.mul_le_mul (by omega) h3
            simp only [show 127 * (128 : Nat) ^ 8 = 9151314442816847872 by decide] at h4
            omega
        rw [if_neg hbt, if_neg hnot, if_pos (by omega), and127 c (by omega), or_shl acc c i ha h9 hfit]
        by_cases hlow : (c : Int) < 128
        · rw [if_pos hlow, if_pos hlow]
          have : c % 128 = c := by omega
          simp only [ints, this, Int.toNat_natCast]
        · rw [if_neg hlow, if_neg hlow]
          have h9' : i ≠ 9 := fun h => hnot (.inl ⟨h, by omega⟩)
          simp only [Int.toNat_natCast]
          refine number_l0 L hL hlen d k (i + 1) _ (by omega) (by omega) (by omega) ?_ (by omega)
          rw [pow_step]
          have : c % 128 * 128 ^ i ≤ 127 * 128 ^ i := Nat.mul_le_mul_right _ (by omega)
          omega
    simp only [PBytesBack.bytes_number.l0]
    rw [if_pos q1, if_pos q2, if_pos q1, hr]
    by_cases a : (i : Int) = 9
    · rw [if_pos a]
      by_cases b : (c : Int) > 1
      · rw [if_pos b]; exact hj true (F1 a b)
      · rw [if_neg b, if_pos (q3 a)]; exact hj _ (F2 a b)
    · rw [if_neg a]
      by_cases b : (i : Int) > 0
      · rw [if_pos b]; exact hj _ (F3 a b)
      · rw [if_neg b]; exact hj false (F4 a b)
theorem number_f (L : List Int) (hL : Bytes L) (hlen : L.length ≤ 140737488355328) : PBytesBack.bytes_number.f (2 * L.length + 1) L = some (((dec L).1 : Int), ((dec L).2 : Int)) := by
  have := number_l0 L hL hlen L.length (2 * L.length + 1) 0 0 (by omega) (by omega) (by omega) (by simp) (by omega)
  rw [List.drop_zero] at this
  exact this
end Go.Proofs.Ythgahepldlicbaa.CF
