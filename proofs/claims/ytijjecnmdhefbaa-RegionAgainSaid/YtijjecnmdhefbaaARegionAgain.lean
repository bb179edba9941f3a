/- The own texts that the statement RegionAgain leans on: Codec, CodecF, BRdr, BRdr2, BStr, BPut, BOwn, BAsk, Dir, BRdrInt, QRdr, REnt, RGetP, RNext, RGetA, RGet, RRootP, RTold, BStrW, RRootPut, RGetRoot, RStrB, ROrd0, RAgainP, RWorks. -/
import Derived.RowKit
import Derived.Laws.BitsLemmas
import Derived.Test.YtijjecnmdhefbaaPRegionAgainx1
import Derived.Test.YtijjecnmdhefbaaPRegionAgainx3
import Derived.Lib.Hide
import Derived.Deep.Slices
import Derived.Deep.Fields
import Derived.ChangeSame
import Derived.DataShut
import Derived.Outline
import Derived.Test.YtijjecnmdhefbaaPRegionAgainx2
import Derived.Lib.ConvBytes
namespace Go.Proofs.Ytijjecnmdhefbaa.CD
set_option linter.unusedVariables false
set_option linter.unusedSimpArgs false

/-- All are bytes. -/
def Bytes (l : List Int) : Prop := ∀ x ∈ l, 0 ≤ x ∧ x < 256
theorem Bytes.nil : Bytes [] := fun _ h => by cases h
theorem Bytes.cons {c : Int} {l : List Int} (h : Bytes (c :: l)) : (0 ≤ c ∧ c < 256) ∧ Bytes l := ⟨h c (by simp), fun x hx => h x (by simp [hx])⟩
theorem Bytes.mk {c : Int} {l : List Int} (hc : 0 ≤ c ∧ c < 256) (h : Bytes l) : Bytes (c :: l) := fun x hx => by
  rcases List.mem_cons.1 hx with rfl | hx
  · exact hc
  · exact h x hx
theorem Bytes.append {l m : List Int} (h : Bytes l) (k : Bytes m) : Bytes (l ++ m) := fun x hx => by
  rcases List.mem_append.1 hx with hx | hx
  · exact h x hx
  · exact k x hx
theorem Bytes.left {l m : List Int} (h : Bytes (l ++ m)) : Bytes l := fun x hx => h x (List.mem_append_left _ hx)
theorem Bytes.right {l m : List Int} (h : Bytes (l ++ m)) : Bytes m := fun x hx => h x (List.mem_append_right _ hx)
theorem Bytes.drop {l : List Int} (h : Bytes l) (n : Nat) : Bytes (l.drop n) := fun x hx => h x (List.mem_of_mem_drop hx)
theorem Bytes.take {l : List Int} (h : Bytes l) (n : Nat) : Bytes (l.take n) := fun x hx => h x (List.mem_of_mem_take hx)

/-- A number's bytes, k more groups allowed behind the first. -/
def numF : Nat → Nat → List Int
  | 0, n => [(n : Int)]
  | k + 1, n => if n < 128 then [(n : Int)] else ((n % 128 + 128 : Nat) : Int) :: numF k (n / 128)
def num (n : Nat) : List Int := numF 9 n
/-- The number with whose bytes a list begins from group i on, acc being what is there already; how many bytes. -/
def decF : Nat → Nat → List Int → Nat × Nat
  | _, _, [] => (0, 0)
  | i, acc, c :: l => if (i = 9 ∧ c > 1) ∨ (i > 0 ∧ c = 0) then (0, 0) else if c < 128 then (acc + c.toNat * 128 ^ i, i + 1) else decF (i + 1) (acc + c.toNat % 128 * 128 ^ i) l
def dec (l : List Int) : Nat × Nat := decF 0 0 l

theorem numF_pos (k n : Nat) : 1 ≤ (numF k n).length := by cases k <;> simp [numF]; split <;> simp
theorem numF_le : ∀ (k n : Nat), (numF k n).length ≤ k + 1
  | 0, n => by simp [numF]
  | k + 1, n => by
    simp only [numF]
    split
    · simp
    · simp only [List.length_cons]
      have := numF_le k (n / 128)
      omega
theorem numF_small (k n : Nat) (h : n < 128) : numF k n = [(n : Int)] := by cases k <;> simp [numF, h]
theorem numF_big (k n : Nat) (h : 128 ≤ n) : numF (k + 1) n = ((n % 128 + 128 : Nat) : Int) :: numF k (n / 128) := by simp [numF, Nat.not_lt.2 h]
theorem pow_step (i : Nat) : 128 ^ (i + 1) = 128 * 128 ^ i := by rw [Nat.pow_succ, Nat.mul_comm]
theorem split_group (n p : Nat) : n % 128 * p + n / 128 * (128 * p) = n * p := by
  have h : n = 128 * (n / 128) + n % 128 := by omega
  calc n % 128 * p + n / 128 * (128 * p) = (128 * (n / 128) + n % 128) * p := by
        rw [Nat.add_mul, Nat.mul_comm 128 (n / 128), Nat.mul_assoc]; omega
    _ = n * p := by rw [← h]

theorem decF_num : ∀ (k i acc n : Nat) (rest : List Int), i + k = 9 → n * 128 ^ i < 18446744073709551616 → (0 < i → 0 < n) →
    decF i acc (numF k n ++ rest) = (acc + n * 128 ^ i, i + (numF k n).length)
  | 0, i, acc, n, rest, hi, hn, h0 => by
    obtain rfl : i = 9 := by omega
    have h1 : n ≤ 1 := by simp only [show (128 : Nat) ^ 9 = 9223372036854775808 by decide] at hn; omega
    have h2 := h0 (by omega)
    simp only [numF, List.cons_append, List.nil_append, decF]
    rw [if_neg (by omega), if_pos (by omega)]
    simp
  | k + 1, i, acc, n, rest, hi, hn, h0 => by
    by_cases h : n < 128
    · rw [numF_small _ _ h]
      simp only [List.cons_append, List.nil_append, decF]
      rw [if_neg (by omega), if_pos (by omega)]
      simp
    · rw [numF_big k n (by omega)]
      simp only [List.cons_append, decF]
      rw [if_neg (by omega), if_neg (by omega)]
      have e : ((((n % 128 + 128 : Nat) : Int)).toNat % 128) = n % 128 := by omega
      have hs := split_group n (128 ^ i)
      rw [e, decF_num k (i + 1) _ (n / 128) rest (by omega) (by rw [pow_step]; omega) (by omega), pow_step]
      simp only [List.length_cons, Prod.mk.injEq]
      omega
theorem dec_num (n : Nat) (rest : List Int) (hn : n < 18446744073709551616) : dec (num n ++ rest) = (n, (num n).length) := by
  unfold dec num
  rw [decF_num 9 0 0 n rest rfl (by simpa using hn) (by omega)]
  simp
theorem decF_back : ∀ (l : List Int) (i acc m k : Nat), Bytes l → i ≤ 9 → decF i acc l = (m, k) → k ≠ 0 →
    ∃ n rest, l = numF (9 - i) n ++ rest ∧ k = i + (numF (9 - i) n).length ∧ m = acc + n * 128 ^ i ∧ n * 128 ^ i < 18446744073709551616 ∧ (0 < i → 0 < n)
  | [], i, acc, m, k, hb, hi, h, hk => by
    simp only [decF, Prod.mk.injEq] at h
    omega
  | c :: l, i, acc, m, k, hb, hi, h, hk => by
    obtain ⟨hc, hl⟩ := hb.cons
    simp only [decF] at h
    by_cases h1 : (i = 9 ∧ c > 1) ∨ (i > 0 ∧ c = 0)
    · rw [if_pos h1] at h
      simp only [Prod.mk.injEq] at h
      omega
    · rw [if_neg h1] at h
      by_cases h2 : c < 128
      · rw [if_pos h2] at h
        simp only [Prod.mk.injEq] at h
        refine ⟨c.toNat, l, ?_, ?_, h.1.symm, ?_, by omega⟩
        · rw [numF_small _ _ (by omega), show ((c.toNat : Nat) : Int) = c by omega]
          rfl
        · rw [numF_small _ _ (by omega)]
          simp
          omega
        · by_cases h9 : i = 9
          · subst h9
            have : c.toNat ≤ 1 := by omega
            simp only [show (128 : Nat) ^ 9 = 9223372036854775808 by decide]
            omega
          · have h3 : 128 ^ i ≤ 128 ^ 8 := Nat.pow_le_pow_right (by decide) (by omega)
            have h4 : c.toNat * 128 ^ i ≤ 127 * 128 ^ 8 := Nat.mul_le_mul (by omega) h3
            simp only [show 127 * (128 : Nat) ^ 8 = 9151314442816847872 by decide] at h4
            omega
      · rw [if_neg h2] at h
        have h9 : i ≠ 9 := fun h9 => h1 (.inl ⟨h9, by omega⟩)
        obtain ⟨n, rest, e1, e2, e3, e4, e5⟩ := decF_back l (i + 1) _ m k hl (by omega) h hk
        have hn := e5 (by omega)
        have hs := split_group (128 * n + c.toNat % 128) (128 ^ i)
        have q1 : (128 * n + c.toNat % 128) % 128 = c.toNat % 128 := by omega
        have q2 : (128 * n + c.toNat % 128) / 128 = n := by omega
        rw [q1, q2] at hs
        rw [pow_step] at e3 e4
        refine ⟨128 * n + c.toNat % 128, rest, ?_, ?_, by omega, ?_, by omega⟩
        · rw [show 9 - i = (9 - (i + 1)) + 1 by omega, numF_big _ _ (by omega), q1, q2, e1, show ((c.toNat % 128 + 128 : Nat) : Int) = c by omega]
          rfl
        · rw [show 9 - i = (9 - (i + 1)) + 1 by omega, numF_big _ _ (by omega), q2, e2, List.length_cons]
          omega
        · -- what is added fits: all the lower groups together are below the next one's weight
          have h5 : n * (128 * 128 ^ i) + 127 * 128 ^ i < 18446744073709551616 := by
            have hi8 : i ≤ 8 := by omega
            have d : 18446744073709551616 = 2 * 128 ^ (8 - i) * (128 * 128 ^ i) := by
              have : 128 ^ (8 - i) * 128 ^ i = 128 ^ 8 := by rw [← Nat.pow_add]; congr 1; omega
              calc 18446744073709551616 = 2 * (128 * 128 ^ 8) := by decide
                _ = 2 * 128 ^ (8 - i) * (128 * 128 ^ i) := by rw [← this]; simp only [Nat.mul_assoc, Nat.mul_left_comm]
            have hp : 0 < 128 ^ i := Nat.pow_pos (by decide)
            rw [d] at e4
            have : n < 2 * 128 ^ (8 - i) := Nat.lt_of_mul_lt_mul_right e4
            have : (n + 1) * (128 * 128 ^ i) ≤ 2 * 128 ^ (8 - i) * (128 * 128 ^ i) := Nat.mul_le_mul_right _ this
            rw [← d, Nat.add_mul] at this
            omega
          have h6 : c.toNat % 128 * 128 ^ i ≤ 127 * 128 ^ i := Nat.mul_le_mul_right _ (by omega)
          omega
/-- What is read as a number is its bytes. -/
theorem dec_back (l : List Int) (hb : Bytes l) (m k : Nat) (h : dec l = (m, k)) (hk : k ≠ 0) : m < 18446744073709551616 ∧ k = (num m).length ∧ l = num m ++ l.drop k ∧ k ≤ l.length ∧ 1 ≤ k ∧ k ≤ 10 := by
  obtain ⟨n, rest, e1, e2, e3, e4, _⟩ := decF_back l 0 0 m k hb (by omega) h hk
  have hn : n = m := by rw [e3]; simp
  subst hn
  have h1 : k = (num n).length := by rw [e2]; simp [num]
  have h2 : l = num n ++ rest := e1
  refine ⟨by simpa using e4, h1, ?_, ?_, ?_, ?_⟩
  · rw [h1, h2, List.drop_left]
  · rw [h1, h2, List.length_append]; omega
  · rw [h1]; exact numF_pos _ _
  · rw [h1]; exact numF_le 9 n
theorem decF_none : ∀ (l : List Int) (i acc m : Nat), decF i acc l = (m, 0) → m = 0
  | [], i, acc, m, h => by simp only [decF, Prod.mk.injEq] at h; exact h.1.symm
  | c :: l, i, acc, m, h => by
    simp only [decF] at h
    split at h
    · simp only [Prod.mk.injEq] at h; exact h.1.symm
    · split at h
      · simp only [Prod.mk.injEq] at h; omega
      · exact decF_none l _ _ m h
theorem dec_none (l : List Int) (m : Nat) (h : dec l = (m, 0)) : m = 0 := decF_none l 0 0 m h
theorem num_pos (n : Nat) : 1 ≤ (num n).length := numF_pos 9 n
theorem num_le (n : Nat) : (num n).length ≤ 10 := numF_le 9 n
theorem numF_bytes : ∀ (k i n : Nat), i + k = 9 → n * 128 ^ i < 18446744073709551616 → Bytes (numF k n)
  | 0, i, n, hi, hn => by
    obtain rfl : i = 9 := by omega
    have h1 : n ≤ 1 := by simp only [show (128 : Nat) ^ 9 = 9223372036854775808 by decide] at hn; omega
    exact Bytes.mk (by omega) Bytes.nil
  | k + 1, i, n, hi, hn => by
    by_cases h : n < 128
    · rw [numF_small _ _ h]
      exact Bytes.mk (by omega) Bytes.nil
    · rw [numF_big k n (by omega)]
      have hs := split_group n (128 ^ i)
      exact Bytes.mk (by omega) (numF_bytes k (i + 1) (n / 128) (by omega) (by rw [pow_step]; omega))
theorem num_bytes (n : Nat) (hn : n < 18446744073709551616) : Bytes (num n) := numF_bytes 9 0 n rfl (by simpa using hn)
theorem num_inj (m n : Nat) (hm : m < 18446744073709551616) (hn : n < 18446744073709551616) (h : num m = num n) : m = n := by
  have h1 := dec_num m [] hm
  have h2 := dec_num n [] hn
  rw [h, h2] at h1
  exact (Prod.mk.inj h1).1.symm
/-- Cut off anywhere a number's bytes are none. -/
theorem dec_cut (n j : Nat) (hn : n < 18446744073709551616) (hj : j < (num n).length) : dec ((num n).take j) = (0, 0) := by
  cases h : dec ((num n).take j) with
  | mk m k =>
    by_cases hk : k = 0
    · subst hk
      rw [dec_none _ _ h]
    · obtain ⟨h1, h2, h3, h4, h5, h6⟩ := dec_back _ ((num_bytes n hn).take j) m k h hk
      have h7 : num n = num m ++ (((num n).take j).drop k ++ (num n).drop j) := by
        rw [← List.append_assoc, ← h3, List.take_append_drop]
      have h8 := dec_num m (((num n).take j).drop k ++ (num n).drop j) h1
      rw [← h7] at h8
      have h9 := dec_num n [] hn
      rw [List.append_nil, h8] at h9
      have := (Prod.mk.inj h9).2
      rw [List.length_take] at h4
      omega

/-- A number of a width. -/
def fixed : Nat → Nat → List Int
  | 0, _ => []
  | w + 1, n => ((n % 256 : Nat) : Int) :: fixed w (n / 256)
def unfixed : List Int → Nat
  | [] => 0
  | c :: l => c.toNat + 256 * unfixed l
theorem fixed_length : ∀ (w n : Nat), (fixed w n).length = w
  | 0, _ => rfl
  | w + 1, n => by simp [fixed, fixed_length w]
theorem fixed_bytes : ∀ (w n : Nat), Bytes (fixed w n)
  | 0, _ => Bytes.nil
  | w + 1, n => Bytes.mk (by omega) (fixed_bytes w _)
theorem fixed_unfixed : ∀ (l : List Int), Bytes l → fixed l.length (unfixed l) = l
  | [], _ => rfl
  | c :: l, h => by
    obtain ⟨hc, hl⟩ := h.cons
    simp only [List.length_cons, fixed, unfixed]
    rw [show (c.toNat + 256 * unfixed l) / 256 = unfixed l by omega, fixed_unfixed l hl, show (((c.toNat + 256 * unfixed l) % 256 : Nat) : Int) = c by omega]
theorem unfixed_fixed : ∀ (w n : Nat), unfixed (fixed w n) = n % 256 ^ w
  | 0, n => by simp [fixed, unfixed, Nat.mod_one]
  | w + 1, n => by
    simp only [fixed, unfixed]
    rw [unfixed_fixed w (n / 256), Nat.pow_succ, Nat.mul_comm (256 ^ w) 256, Nat.mod_mul]
    omega
theorem unfixed_lt : ∀ (l : List Int), Bytes l → unfixed l < 256 ^ l.length
  | [], _ => by simp [unfixed]
  | c :: l, h => by
    obtain ⟨hc, hl⟩ := h.cons
    have := unfixed_lt l hl
    simp only [unfixed, List.length_cons, Nat.pow_succ]
    omega

/-- A whole number as a number, and back. -/
def zig (i : Int) : Nat := if 0 ≤ i then (2 * i).toNat else (-2 * i - 1).toNat
def zag (n : Nat) : Int := if n % 2 = 0 then ((n / 2 : Nat) : Int) else -((n / 2 : Nat) : Int) - 1
theorem zag_zig (i : Int) : zag (zig i) = i := by
  unfold zag zig
  split <;> split <;> omega
theorem zig_zag (n : Nat) : zig (zag n) = n := by
  unfold zag zig
  split <;> split <;> omega
theorem zig_lt (i : Int) (h : -9223372036854775808 ≤ i ∧ i < 9223372036854775808) : zig i < 18446744073709551616 := by
  unfold zig
  split <;> omega
theorem zag_range (n : Nat) (h : n < 18446744073709551616) : -9223372036854775808 ≤ zag n ∧ zag n < 9223372036854775808 := by
  unfold zag
  split <;> omega
end Go.Proofs.Ytijjecnmdhefbaa.CD

namespace Go.Proofs.Ytijjecnmdhefbaa.CF
open Go.RowKit Go.Proofs.YtijjecnmdhefbaaW.PrintWords Go.Proofs.YtijjecnmdhefbaaW.PrintLast Go.Proofs.YtijjecnmdhefbaaW.PrintMore Go.Proofs.Ytijjecnmdhefbaa.CD
set_option linter.unusedVariables false
set_option linter.unusedSimpArgs false

theorem wu64 (n : Int) : IntKind.u64.wrap n = n % 18446744073709551616 := by simp [IntKind.wrap, IntKind.bits, IntKind.signed]
theorem wu64_id (n : Int) (h0 : 0 ≤ n) (h1 : n < 18446744073709551616) : IntKind.u64.wrap n = n := by rw [wu64]; omega
theorem or128 (x : Nat) : bits .or .u8 ((x : Int) % 256) 128 = ((x % 128 + 128 : Nat) : Int) := by
  have h : ∀ a : Fin 256, a.val ||| 128 = a.val % 128 + 128 := by decide +kernel
  have e : ((x : Int) % 256) = ((x % 256 : Nat) : Int) := by omega
  rw [e, show (128 : Int) = ((128 : Nat) : Int) from rfl, (bits_nat .u8 8 (by decide) wraps_u8 (x % 256) 128 (by omega) (by decide)).2, h ⟨x % 256, by omega⟩]
  show ((x % 256 % 128 + 128 : Nat) : Int) = _
  omega
theorem and127 (x : Nat) (hx : x < 256) : bits .and .u8 (x : Int) 127 = ((x % 128 : Nat) : Int) := by
  have := bits_mask .u8 8 (by decide) wraps_u8 7 (by decide) (x : Int) (by omega) (by omega)
  rw [show (2 : Int) ^ 7 - 1 = 127 by decide, show (2 : Int) ^ 7 = 128 by decide] at this
  rw [this]; omega
theorem put_l0 : ∀ (k j n : Nat) (x : List Int), n < 128 ^ (k + 1) → x.length + k < 140737488355328 → k < j → PRegionAgain.bytes_Put.l0 j (n : Int) x = some (x ++ numF k n)
  | 0, j, n, x, hn, hx, hj => by
    obtain ⟨j, rfl⟩ : ∃ m, j = m + 1 := ⟨j - 1, by omega⟩
    simp only [PRegionAgain.bytes_Put.l0, numF]
    rw [if_neg (by omega), if_pos (by omega), show ((n : Int) % 256) = (n : Int) by omega]
  | k + 1, j, n, x, hn, hx, hj => by
    obtain ⟨j, rfl⟩ : ∃ m, j = m + 1 := ⟨j - 1, by omega⟩
    simp only [PRegionAgain.bytes_Put.l0]
    by_cases h : n < 128
    · rw [numF_small _ _ h, if_neg (by omega), if_pos (by omega), show ((n : Int) % 256) = (n : Int) by omega]
    · rw [numF_big k n (by omega), if_pos (by omega), if_pos (by omega), or128, show ((n : Int) / 128) = ((n / 128 : Nat) : Int) by omega]
      rw [put_l0 k j (n / 128) _ (by rw [Nat.pow_succ] at hn; omega) (by simp; omega) (by omega)]
      simp
theorem put_f (n : Nat) (l : List Int) (hn : n < 18446744073709551616) (hl : l.length < 140737488355000) : PRegionAgain.bytes_Put.f 12 l (n : Int) = some (l ++ num n) := by
  unfold PRegionAgain.bytes_Put.f
  simp only [Option.bind_some, List.length_nil, Nat.zero_add, List.nil_append]
  rw [if_pos (by omega)]
  exact put_l0 9 12 n l (by omega) (by omega) (by omega)

theorem or_shl (acc c i : Nat) (ha : acc < 128 ^ i) (hi : i ≤ 9) (hc : c % 128 * 128 ^ i < 18446744073709551616) :
    bits .or .u64 (acc : Int) (shl .u64 (IntKind.u64.wrap ((c % 128 : Nat) : Int)) (7 * (i : Int))) = ((acc + c % 128 * 128 ^ i : Nat) : Int) := by
  have hp : (128 : Nat) ^ i = 2 ^ (7 * i) := by rw [show (128 : Nat) = 2 ^ 7 by decide, ← Nat.pow_mul]
  have hlt : acc < 18446744073709551616 := by
    have : 128 ^ i ≤ 128 ^ 9 := Nat.pow_le_pow_right (by decide) hi
    simp only [show (128 : Nat) ^ 9 = 9223372036854775808 by decide] at this
    omega
  have e1 : shl .u64 (IntKind.u64.wrap ((c % 128 : Nat) : Int)) (7 * (i : Int)) = ((c % 128 * 128 ^ i : Nat) : Int) := by
    unfold shl
    rw [wu64_id ((c % 128 : Nat) : Int) (by omega) (by omega), show (7 * (i : Int)).toNat = 7 * i by omega, Nat.min_eq_left (by simp only [IntKind.bits]; omega)]
    rw [show ((c % 128 : Nat) : Int) * 2 ^ (7 * i) = ((c % 128 * 128 ^ i : Nat) : Int) by rw [hp]; simp]
    exact wu64_id _ (by omega) (by omega)
  rw [e1, (bits_nat .u64 64 (by decide) (fun n a b => wu64_id n a (by simpa using b)) acc (c % 128 * 128 ^ i) (by omega) (by omega)).2]
  congr 1
  rw [Nat.or_comm, hp, Nat.mul_comm, ← Nat.two_pow_add_eq_or_of_lt (by rw [← hp]; exact ha) (c % 128)]
  omega

/-- Two numbers as the program has them. -/
def ints (p : Nat × Nat) : Int × Int := ((p.1 : Int), (p.2 : Int))
theorem number_l0 (L : List Int) (hL : Bytes L) (hlen : L.length ≤ 140737488355328) : ∀ (d : Nat) (k i acc : Nat), d = L.length - i → i ≤ L.length → i ≤ 9 → acc < 128 ^ i → 2 * d < k →
    PRegionAgain.bytes_number.l0 k (acc : Int) L (L.length : Int) (i : Int) = some (ints (decF i acc (L.drop i)))
  | 0, k, i, acc, hd, hi, h9, ha, hk => by
    obtain ⟨k, rfl⟩ : ∃ m, k = m + 1 := ⟨k - 1, by omega⟩
    simp only [PRegionAgain.bytes_number.l0]
    rw [if_neg (by omega), List.drop_eq_nil_of_le (by omega)]
    rfl
  | d + 1, k, i, acc, hd, hi, h9, ha, hk => by
    obtain ⟨k, rfl⟩ : ∃ m, k = m + 2 := ⟨k - 2, by omega⟩
    have hlt : i < L.length := by omega
    have hr : rd L (i : Int) = L[i] := by simp [rd, List.getD_eq_getElem?_getD, List.getElem?_eq_getElem hlt]
    obtain ⟨hc0, hc1⟩ := hL _ (List.getElem_mem hlt)
    obtain ⟨c, hc⟩ : ∃ c : Nat, L[i] = (c : Int) := ⟨L[i].toNat, by omega⟩
    rw [hc] at hc0 hc1 hr
    have q1 : (i : Int) < (L.length : Int) := by omega
    have q2 : 0 ≤ (i : Int) := by omega
    have q3 : (i : Int) = 9 → (i : Int) > 0 := by omega
    have F1 : (i : Int) = 9 → (c : Int) > 1 → (true = true ↔ (i = 9 ∧ (c : Int) > 1) ∨ (i > 0 ∧ (c : Int) = 0)) := fun a b => ⟨fun _ => by omega, fun _ => rfl⟩
    have F2 : (i : Int) = 9 → ¬ (c : Int) > 1 → (((c : Int) == 0) = true ↔ (i = 9 ∧ (c : Int) > 1) ∨ (i > 0 ∧ (c : Int) = 0)) := fun a b => by rw [beq_iff_eq]; omega
    have F3 : ¬ (i : Int) = 9 → (i : Int) > 0 → (((c : Int) == 0) = true ↔ (i = 9 ∧ (c : Int) > 1) ∨ (i > 0 ∧ (c : Int) = 0)) := fun a b => by rw [beq_iff_eq]; omega
    have F4 : ¬ (i : Int) = 9 → ¬ (i : Int) > 0 → (false = true ↔ (i = 9 ∧ (c : Int) > 1) ∨ (i > 0 ∧ (c : Int) = 0)) := fun a b => ⟨fun h => absurd h (by decide), fun h => by omega⟩
    have hw7 : wrap64 (7 * (i : Int)) = 7 * (i : Int) := by unfold wrap64; omega
    have hw1 : wrap64 ((i : Int) + 1) = ((i + 1 : Nat) : Int) := by unfold wrap64; omega
    have hdrop : L.drop i = (c : Int) :: L.drop (i + 1) := by rw [List.drop_eq_getElem_cons hlt, hc]
    have hj : ∀ b : Bool, (b = true ↔ (i = 9 ∧ (c : Int) > 1) ∨ (i > 0 ∧ (c : Int) = 0)) → PRegionAgain.bytes_number.j1 (k + 1) (acc : Int) (i : Int) (c : Int) L (L.length : Int) (i : Int) b = some (ints (decF i acc (L.drop i))) := by
      intro b hb
      simp only [PRegionAgain.bytes_number.j1, hw7, hw1]
      rw [hdrop]
      clear hw7 hw1 hr hdrop F1 F2 F3 F4
      simp only [decF]
      by_cases hbt : b = true
      · rw [if_pos hbt, if_pos (hb.1 hbt)]
        rfl
      · have hnot := fun h => hbt (hb.2 h)
        have hfit : c % 128 * 128 ^ i < 18446744073709551616 := by
          by_cases h9' : i = 9
          · have : c ≤ 1 := Nat.le_of_not_lt (fun h => hnot (.inl ⟨h9', by omega⟩))
            rw [h9', show (128 : Nat) ^ 9 = 9223372036854775808 by decide]; omega
          · have h3 : 128 ^ i ≤ 128 ^ 8 := Nat.pow_le_pow_right (by decide) (by omega)
            have h4 : c % 128 * 128 ^ i ≤ 127 * 128 ^ 8 := Nat.mul_le_mul (by omega) h3
            simp only [show 127 * (128 : Nat) ^ 8 = 9151314442816847872 by decide] at h4
            omega
        rw [if_neg hbt, if_neg hnot, if_pos (by omega), and127 c (by omega), or_shl acc c i ha h9 hfit]
        by_cases hlow : (c : Int) < 128
        · rw [if_pos hlow, if_pos hlow]
          have : c % 128 = c := by omega
          simp only [ints, this, Int.toNat_natCast]
        · rw [if_neg hlow, if_neg hlow]
          have h9' : i ≠ 9 := fun h => hnot (.inl ⟨h, by omega⟩)
          simp only [Int.toNat_natCast]
          refine number_l0 L hL hlen d k (i + 1) _ (by omega) (by omega) (by omega) ?_ (by omega)
          rw [pow_step]
          have : c % 128 * 128 ^ i ≤ 127 * 128 ^ i := Nat.mul_le_mul_right _ (by omega)
          omega
    simp only [PRegionAgain.bytes_number.l0]
    rw [if_pos q1, if_pos q2, if_pos q1, hr]
    by_cases a : (i : Int) = 9
    · rw [if_pos a]
      by_cases b : (c : Int) > 1
      · rw [if_pos b]; exact hj true (F1 a b)
      · rw [if_neg b, if_pos (q3 a)]; exact hj _ (F2 a b)
    · rw [if_neg a]
      by_cases b : (i : Int) > 0
      · rw [if_pos b]; exact hj _ (F3 a b)
      · rw [if_neg b]; exact hj false (F4 a b)
theorem number_f (L : List Int) (hL : Bytes L) (hlen : L.length ≤ 140737488355328) : PRegionAgain.bytes_number.f (2 * L.length + 1) L = some (((dec L).1 : Int), ((dec L).2 : Int)) := by
  have := number_l0 L hL hlen L.length (2 * L.length + 1) 0 0 (by omega) (by omega) (by omega) (by simp) (by omega)
  rw [List.drop_zero] at this
  exact this
end Go.Proofs.Ytijjecnmdhefbaa.CF

namespace Go.Proofs.Ytijjecnmdhefbaa.BR
open Go.RowKit Go.Proofs.YtijjecnmdhefbaaW.PrintWords Go.Proofs.YtijjecnmdhefbaaW.PrintLast Go.Proofs.YtijjecnmdhefbaaW.PrintMore Go.Proofs.Ytijjecnmdhefbaa.CD
set_option linter.unusedVariables false
set_option linter.unusedSimpArgs false

/-! ### worlds -/
theorem gset {a w : World} {b : Nat} (h : a.grownBy w (some b)) (i : Nat) (v : Value) : a.grownBy (w.setCell ⟨b, i, none⟩ v) (some b) :=
  ⟨h.os, h.tape, h.output, Nat.le_trans h.size (by simp [World.setCell]), fun k hk hne => (Below.heap_setCell w _ _ k (by intro e; exact hne (by rw [e]))).trans (h.block k hk hne)⟩
theorem gdrewN {a w : World} {row : Option Nat} (h : a.grownBy w row) (n : Nat) : a.grownBy (w.drewN n) row := ⟨h.os, h.tape, h.output, h.size, h.block⟩
theorem gdrew {a w : World} {row : Option Nat} (h : a.grownBy w row) : a.grownBy w.drew row := ⟨h.os, h.tape, h.output, h.size, h.block⟩
theorem gbelow {a w w' : World} {row : Option Nat} (h : a.grownBy w row) (hb : Below w.heap.size w w') : a.grownBy w' row :=
  ⟨hb.os.trans h.os, hb.tape.trans h.tape, hb.output.trans h.output, Nat.le_trans h.size hb.size, fun k hk hne => (hb.block k (Nat.lt_of_lt_of_le hk h.size)).trans (h.block k hk hne)⟩
theorem gtrans {a w w' : World} {row : Option Nat} (h : a.grownBy w row) (k : w.grownBy w' row) : a.grownBy w' row := World.grownBy.trans h k
theorem gofBelow {w w1 : World} {row : Option Nat} (h : Below w.heap.size w w1) : w.grownBy w1 row := grown_of_below h row
theorem belowg {B : Nat} {a w w' : World} {g : Nat} (h : Below B a w) (hg : w.grownBy w' (some g)) (hB : B ≤ w.heap.size) (hr : B ≤ g) : Below B a w' := h.grown hg hB (fun k hk => by cases hk; exact hr)

/-- The reader at block g: xs is left; is it broken? -/
structure Rdr (w : World) (g : Nat) (xs : List Int) (br : Bool) : Prop where
  cell : ∃ (A : Option Addr) (c : Nat), w.heap[g]? = some (.cells #[.slice A xs.length c, .bool true, .bool br] 81 (0, 0)) ∧ xs.length ≤ c ∧ ReadsInt w .u8 A xs.length xs ∧ (∀ ad, A = some ad → 0 < xs.length → ad.block ≠ g)
  small : xs.length ≤ 140737488355328
  bytes : Bytes xs
theorem Rdr.lt {w : World} {g : Nat} {xs : List Int} {br : Bool} (h : Rdr w g xs br) : g < w.heap.size := by
  obtain ⟨A, c, hb, _⟩ := h.cell
  exact blk_lt hb
theorem reads_kept {w w' : World} {A : Option Addr} {n : Nat} {xs : List Int} (h : ReadsInt w .u8 A n xs) (hk : ∀ ad, A = some ad → 0 < n → ad.block < w.heap.size → w'.heap[ad.block]? = w.heap[ad.block]?) : ReadsInt w' .u8 A n xs :=
  ⟨h.1, h.2.1, fun hn => by
    obtain ⟨ad, e, hc⟩ := h.2.2 hn
    refine ⟨ad, e, fun j hj => ?_⟩
    have hj' := hc j hj
    have hl := World.block_lt_of_cell? w _ hj'
    have hbk : (ad.add j).block = ad.block := by unfold Addr.add; split <;> rfl
    rw [hbk] at hl
    have e2 := hk ad e hn hl
    have : w'.cell? (ad.add j) = w.cell? (ad.add j) := by unfold World.cell?; rw [hbk, e2]
    rw [this]; exact hj'⟩
/-- Another block's turn leaves a reader. -/
theorem Rdr.kept {w w' : World} {g : Nat} {xs : List Int} {br : Bool} (h : Rdr w g xs br) {row : Option Nat} (hg : w.grownBy w' row) (hne : some g ≠ row) (hdata : ∀ ad : Addr, some ad.block = row → ∀ A c, w.heap[g]? = some (.cells #[.slice A xs.length c, .bool true, .bool br] 81 (0, 0)) → 0 < xs.length → A ≠ some ad) : Rdr w' g xs br := by
  obtain ⟨A, c, hb, hc, hr, hn⟩ := h.cell
  refine ⟨⟨A, c, (hg.block g (blk_lt hb) hne).trans hb, hc, reads_kept hr fun ad e h0 hl => hg.block _ hl (fun e2 => hdata ad e2 A c hb h0 e), hn⟩, h.small, h.bytes⟩
theorem Rdr.below {w w' : World} {g : Nat} {xs : List Int} {br : Bool} (h : Rdr w g xs br) (hb : Below w.heap.size w w') : Rdr w' g xs br :=
  h.kept (gofBelow (row := none) hb) (by simp) (fun ad e => by cases e)
theorem Rdr.drewN {w : World} {g : Nat} {xs : List Int} {br : Bool} (h : Rdr w g xs br) (n : Nat) : Rdr (w.drewN n) g xs br := h.below (pw_below_drewN (Below.refl _ _) n)
/-- It breaks. -/
theorem Rdr.breaks {w : World} {g : Nat} {xs : List Int} {br : Bool} (h : Rdr w g xs br) : Rdr (w.setCell ⟨g, 2, none⟩ (.bool true)) g xs true := by
  obtain ⟨A, c, hb, hc, hr, hn⟩ := h.cell
  refine ⟨⟨A, c, by rw [blk_set hb]; rfl, hc, reads_kept hr fun ad e h0 hl => Below.heap_setCell w _ _ _ (hn ad e h0), hn⟩, h.small, h.bytes⟩
theorem cutFrom (A : Option Addr) (xs : List Int) (c m : Nat) (hm : m ≤ xs.length) (hc : xs.length ≤ c) :
    ∃ A' : Option Addr, (∀ W : World, (Instr.slice 34 (.slice A xs.length c) (some (.int .i64 (m : Int))) none none).run Try.prog W = .ok (.slice A' (xs.length - m) (c - m)) W) ∧
      (∀ w, ReadsInt w .u8 A xs.length xs → ReadsInt w .u8 A' (xs.drop m).length (xs.drop m)) ∧ (∀ ad', A' = some ad' → ∃ ad, A = some ad ∧ ad.block = ad'.block) := by
  obtain ⟨i0, hi, hz0, hz1, hz2⟩ := info_parts (show (Try.prog.info? 5).map (fun i => (i.zero, i.size, i.bytes)) = some (some (.int .u8 0), 1, 1) by kernel_rfl)
  refine ⟨if c = m then A else A.map (·.add m), fun W => ?_, fun w h => ?_, fun ad' e => ?_⟩
  · have := cut_from (P := Try.prog) 34 5 .i64 Try.underlying34 hi 1 hz1 A xs.length c (m : Int) (by omega) (by omega) W
    simpa using this
  · have := h.drop_ m hm hc
    rw [List.length_drop]
    exact this
  · split at e
    · exact ⟨ad', e, rfl⟩
    · cases A with
      | none => simp at e
      | some ad =>
        simp only [Option.map_some, Option.some.injEq] at e
        refine ⟨ad, rfl, ?_⟩
        rw [← e]
        unfold Addr.add
        split <;> rfl
/-- It goes on behind m bytes. -/
theorem Rdr.moves {w : World} {g : Nat} {xs : List Int} {br : Bool} (h : Rdr w g xs br) {A : Option Addr} {c : Nat} (hb : w.heap[g]? = some (.cells #[.slice A xs.length c, .bool true, .bool br] 81 (0, 0))) {m : Nat} (hm : m ≤ xs.length) {A' : Option Addr}
    (hr : ∀ w, ReadsInt w .u8 A xs.length xs → ReadsInt w .u8 A' (xs.drop m).length (xs.drop m)) (ha : ∀ ad', A' = some ad' → ∃ ad, A = some ad ∧ ad.block = ad'.block) :
    Rdr (w.setCell ⟨g, 0, none⟩ (.slice A' (xs.length - m) (c - m))) g (xs.drop m) br := by
  obtain ⟨A2, c2, hb2, hc, hrd, hn⟩ := h.cell
  rw [hb2] at hb
  simp only [Option.some.injEq, Obj.cells.injEq, Array.mk.injEq, List.cons.injEq, Value.slice.injEq, and_true, true_and] at hb
  obtain ⟨rfl, rfl⟩ := hb
  have hl : (xs.drop m).length = xs.length - m := List.length_drop
  have hne : ∀ ad', A' = some ad' → 0 < (xs.drop m).length → ad'.block ≠ g := fun ad' e h0 => by
    obtain ⟨ad, e1, e2⟩ := ha ad' e
    rw [← e2]
    exact hn ad e1 (by omega)
  refine ⟨⟨A', c2 - m, by rw [blk_set hb2, hl]; rfl, by omega, reads_kept (hr w hrd) fun ad e h0 hlt => Below.heap_setCell w _ _ _ (hne ad e h0), hne⟩, by have := h.small; omega, h.bytes.drop m⟩

/-! ### what a call does -/
abbrev St := List Int × Bool
def rNum (s : St) : Nat × St := if s.2 then (0, s) else if (dec s.1).2 = 0 then (0, (s.1, true)) else ((dec s.1).1, (s.1.drop (dec s.1).2, false))

theorem fine_calls (g : Nat) (xs : List Int) (br : Bool) (w : World) (h : Rdr w g xs br) :
    Calls Try.prog 49 #[.pointer (some ⟨g, 0, none⟩)] w fun e w' => e = .returned (.bool (!br)) ∧ Drawn0 w w' := by
  obtain ⟨A, c, hb, hc, hr, hne⟩ := h.cell
  have h1 := blk_cell hb 1
  have h2 := blk_cell hb 2
  simp only [List.getElem?_toArray, List.getElem?_cons_succ, List.getElem?_cons_zero] at h1 h2
  clear hb hc hr hne h
  go_enter Try.func49, Try.ntmps49
  go_wp2
  go_ret
  exact ⟨rfl, by repeat (first | exact Drawn0.refl _ | apply Drawn0.step)⟩
theorem number_calls (A : Option Addr) (c : Nat) (xs : List Int) (w : World) (hr : ReadsInt w .u8 A xs.length xs) (hc : xs.length ≤ c) (hb : Bytes xs) (hs : xs.length ≤ 140737488355328) :
    Calls Try.prog 50 #[.slice A xs.length c] w fun e w' => e = .returned (.tuple #[.int .u64 ((dec xs).1 : Int), .int .i64 ((dec xs).2 : Int)]) ∧ Drawn0 w w' :=
  PRegionAgain.bytes_number.calls _ A c xs _ _ w (Kd.C_of_reads (d := (0 : Int)) (h1 := fun _ => rfl) hr) hc (CF.number_f xs hb hs)
theorem num_broken (g : Nat) (xs : List Int) (w : World) (h : Rdr w g xs true) :
    Calls Try.prog 36 #[.pointer (some ⟨g, 0, none⟩)] w fun e w' => e = .returned (.int .u64 0) ∧ Rdr w' g xs true ∧ w.grownBy w' (some g) := by
  have H := Lib.hid h
  clear h
  go_enter Try.func36, Try.ntmps36
  go_wp2_with (go_at_call 49; refine (fine_calls g xs true _ H.out).mono ?_; rintro e w' ⟨rfl, ⟨nd, rfl⟩⟩)
  go_ret
  exact ⟨rfl, H.out.drewN _, gdrewN (World.grownBy.refl _ _) _⟩
theorem num_no (g : Nat) (xs : List Int) (w : World) (h : Rdr w g xs false) (hk : (dec xs).2 = 0) :
    Calls Try.prog 36 #[.pointer (some ⟨g, 0, none⟩)] w fun e w' => e = .returned (.int .u64 0) ∧ Rdr w' g xs true ∧ w.grownBy w' (some g) := by
  have H := Lib.hid h
  obtain ⟨A, c, hb, hc, hr, hne⟩ := h.cell
  have h0 := blk_cell hb 0
  have h2 := blk_cell hb 2
  have f2 := blk_frozen hb 2
  simp only [List.getElem?_toArray, List.getElem?_cons_succ, List.getElem?_cons_zero] at h0 h2
  have HN0 := fun w' (hd : ReadsInt w' .u8 A xs.length xs) => number_calls A c xs w' hd hc h.bytes h.small
  rw [hk] at HN0
  have HN := Lib.hid HN0
  have Hr := Lib.hid hr
  clear hb hc hr hne h hk HN0
  go_enter Try.func36, Try.ntmps36
  go_wp2_with (first | (go_at_call 49; refine (fine_calls g xs false _ H.out).mono ?_; rintro e w' ⟨rfl, ⟨nd, rfl⟩⟩) | (go_at_call 50; refine (HN.out _ (Hr.out.below (pw_below_drewN (Below.refl _ _) _))).mono ?_; rintro e w' ⟨rfl, ⟨nd2, rfl⟩⟩))
  go_ret
  exact ⟨rfl, (H.out.drewN _).breaks, gset (gdrewN (World.grownBy.refl _ _) _) _ _⟩
set_option maxRecDepth 100000 in
theorem num_ok (g : Nat) (xs : List Int) (w : World) (h : Rdr w g xs false) (m k : Nat) (hd : dec xs = (m, k)) (hk : k ≠ 0) :
    Calls Try.prog 36 #[.pointer (some ⟨g, 0, none⟩)] w fun e w' => e = .returned (.int .u64 (m : Int)) ∧ Rdr w' g (xs.drop k) false ∧ w.grownBy w' (some g) := by
  have H := Lib.hid h
  obtain ⟨A, c, hb, hc, hr, hne⟩ := h.cell
  have hkl := (dec_back xs h.bytes m k hd hk).2.2.2.1
  have h0 := blk_cell hb 0
  have f0 := blk_frozen hb 0
  simp only [List.getElem?_toArray, List.getElem?_cons_succ, List.getElem?_cons_zero] at h0
  obtain ⟨A', hcut, hrd, hA'⟩ := cutFrom A xs c k hkl hc
  have HB := Lib.hid hb
  have HM := Lib.hid hrd
  have HA := Lib.hid hA'
  have HN0 := fun w' (hd : ReadsInt w' .u8 A xs.length xs) => number_calls A c xs w' hd hc h.bytes h.small
  rw [hd] at HN0
  have HN := Lib.hid HN0
  have Hr := Lib.hid hr
  have hk0 : (((k : Nat) : Int) == 0) = false := by rw [beq_eq_false_iff_ne]; omega
  have hk1 : ((k : Nat) : Int) ≤ (xs.length : Int) := by omega
  have Hkl := Lib.hid hkl
  clear hb hc hr hne h hd hk HN0 hrd hA' hkl
  go_enter Try.func36, Try.ntmps36
  go_wp2_with (first | (go_at_call 49; refine (fine_calls g xs false _ H.out).mono ?_; rintro e w' ⟨rfl, ⟨nd, rfl⟩⟩) | (go_at_call 50; refine (HN.out _ (Hr.out.below (pw_below_drewN (Below.refl _ _) _))).mono ?_; rintro e w' ⟨rfl, ⟨nd2, rfl⟩⟩))
  go_ret
  exact ⟨rfl, (H.out.drewN _).moves (blk_drewN HB.out _) Hkl.out HM.out HA.out, gset (gdrewN (World.grownBy.refl _ _) _) _ _⟩
theorem num_calls (g : Nat) (xs : List Int) (br : Bool) (w : World) (h : Rdr w g xs br) :
    Calls Try.prog 36 #[.pointer (some ⟨g, 0, none⟩)] w fun e w' => e = .returned (.int .u64 ((rNum (xs, br)).1 : Int)) ∧ Rdr w' g (rNum (xs, br)).2.1 (rNum (xs, br)).2.2 ∧ w.grownBy w' (some g) := by
  unfold rNum
  cases br with
  | true => exact num_broken g xs w h
  | false =>
    simp only [Bool.false_eq_true, if_false]
    by_cases hk : (dec xs).2 = 0
    · rw [if_pos hk]; exact num_no g xs w h hk
    · rw [if_neg hk]; exact num_ok g xs w h _ _ rfl hk
end Go.Proofs.Ytijjecnmdhefbaa.BR

namespace Go.Proofs.Ytijjecnmdhefbaa.BR
open Go.RowKit Go.Proofs.YtijjecnmdhefbaaW.PrintWords Go.Proofs.YtijjecnmdhefbaaW.PrintLast Go.Proofs.YtijjecnmdhefbaaW.PrintMore Go.Proofs.Ytijjecnmdhefbaa.CD
set_option linter.unusedVariables false
set_option linter.unusedSimpArgs false
theorem infoU8 : (Try.prog.info? 5).map (fun i => (i.zero, i.size, i.bytes)) = some (some (.int .u8 0), 1, 1) := by kernel_rfl
/-- A row of bytes of the call's own (nil let in). -/
def OB (w : World) (base : Nat) (v : Value) (l : List Int) : Prop := w.ownsRow base 5 1 v l.length (nums .u8 l)
theorem OB.of_R {w : World} {base : Nat} {ok : Nat → Prop} {v : Value} {l : List Int} (h : Kd.R (Kd.int .u8) 5 w base ok v l) : OB w base v l := Kd.own_of_R h
theorem OB.slice {w : World} {base : Nat} {v : Value} {l : List Int} (h : OB w base v l) : ∃ A c, v = .slice A l.length c ∧ l.length ≤ c ∧ ReadsInt w .u8 A l.length l := by
  obtain ⟨A, c, rfl, hr⟩ := own_reads (k := .u8) h
  exact ⟨A, c, rfl, own_le h, hr⟩
theorem OB.below {w w1 : World} {base : Nat} {v : Value} {l : List Int} (h : OB w base v l) (hb : Below w.heap.size w w1) : OB w1 base v l := pw_own_below h hb
theorem OB.reads {w : World} {base : Nat} {A : Option Addr} {c : Nat} {l : List Int} (h : OB w base (.slice A l.length c) l) : ReadsInt w .u8 A l.length l := by
  obtain ⟨A', c', he, hc, hr⟩ := h.slice
  injection he with e1 e2 e3
  subst e1
  exact hr
theorem OB.empty (W : World) (base : Nat) (hb : base ≤ W.heap.size) : OB (W.alloc (.cells #[] 5)) base (.slice (some ⟨W.heap.size, 0, none⟩) 0 0) [] := own_lit W base 5 .u8 [] hb (by simp)

theorem Rdr.new {w1 : World} {A1 : Option Addr} {c1 : Nat} {xs : List Int} (hr : ReadsInt w1 .u8 A1 xs.length xs) (hc : xs.length ≤ c1) (hb : Bytes xs) (hs : xs.length ≤ 140737488355328) :
    Rdr (w1.alloc (.cells #[.slice A1 xs.length c1, .bool true, .bool false] 81)) w1.heap.size xs false := by
  refine ⟨⟨A1, c1, blk_new _ _, hc, hr.below (below_alloc (Below.refl _ _) _), fun ad e h0 e2 => ?_⟩, hs, hb⟩
  obtain ⟨ad', e', hcell⟩ := hr.2.2 h0
  rw [e] at e'
  obtain rfl := Option.some.inj e'
  have := World.block_lt_of_cell? w1 _ (hcell 0 h0)
  have hbk : (ad.add 0).block = ad.block := by unfold Addr.add; split <;> rfl
  omega
set_option maxHeartbeats 400000 in
set_option maxRecDepth 100000 in
theorem new_calls (A : Option Addr) (c : Nat) (xs : List Int) (w : World) (hr : ReadsInt w .u8 A xs.length xs) (hc : xs.length ≤ c) (hb : Bytes xs) (hs : xs.length ≤ 140737488355328) :
    Calls Try.prog 33 #[.slice A xs.length c] w fun e w' => ∃ g, e = .returned (.pointer (some ⟨g, 0, none⟩)) ∧ w.heap.size ≤ g ∧ Rdr w' g xs false ∧ Below w.heap.size w w' := by
  have Hr := Lib.hid hr
  clear hr
  go_enter Try.func33, Try.ntmps33
  go_wp2_with (at_builtin; refine print_append_row (w0 := w) w.heap.size rfl (.tmp 3) (.tmp 4) 34 5 .u8 1 rfl Try.underlying34 infoU8 (by decide) (.slice (some ⟨w.heap.size, 0, none⟩) 0 0) [] xs A xs.length c rfl rfl ?own ?reads ?below ?size ?len ?_; (case own => exact OB.empty w _ (Nat.le_refl _)); (case reads => exact Hr.out.below (below_alloc (Below.refl _ _) _)); (case below => exact below_alloc (Below.refl _ _) _); (case size => simp); (case len => simp; omega); intro v1 w1 hown hb1 hg hat; rw [List.nil_append] at hown; obtain ⟨A1, c1, rfl, hc1, hr1⟩ := OB.slice hown; have HO := Lib.hid hown; have HB := Lib.hid hb1; have HR := Lib.hid hr1; clear hown hb1 hr1 hg hat)
  go_ret
  exact ⟨w1.heap.size, rfl, HB.out.size, Rdr.new HR.out hc1 hb hs, below_alloc HB.out _⟩
/-- A cell that the call writes to a slice: the value's own form. -/
def rTake (s : St) (n : Int) : List Int × St := if s.2 then ([], s) else if n < 0 ∨ n > (s.1.length : Int) then ([], (s.1, true)) else (s.1.take n.toNat, (s.1.drop n.toNat, false))
theorem OB.set {w1 : World} {base : Nat} {v : Value} {l : List Int} (h : OB w1 base v l) {g : Nat} (hg : g < base) (i : Nat) (u : Value) : OB (w1.setCell ⟨g, i, none⟩ u) base v l :=
  own_setCell h (fun e => by have := own_base h g e.symm; omega) u
/-- Err. -/
theorem err_calls (g : Nat) (xs : List Int) (br : Bool) (w : World) (h : Rdr w g xs br) :
    Calls Try.prog 37 #[.pointer (some ⟨g, 0, none⟩)] w fun e w' => e = .returned (.int .i64 (if br then 4 else 0)) ∧ Drawn0 w w' := by
  obtain ⟨A, c, hb, hc, hr, hne⟩ := h.cell
  have h1 := blk_cell hb 1
  have h2 := blk_cell hb 2
  simp only [List.getElem?_toArray, List.getElem?_cons_succ, List.getElem?_cons_zero] at h1 h2
  clear hb hc hr hne h
  cases br
  all_goals
    go_enter Try.func37, Try.ntmps37
    go_wp2
    go_ret
    exact ⟨rfl, by repeat (first | exact Drawn0.refl _ | apply Drawn0.step)⟩
end Go.Proofs.Ytijjecnmdhefbaa.BR

namespace Go.Proofs.Ytijjecnmdhefbaa.BS
open Go.RowKit Go.Proofs.YtijjecnmdhefbaaW.PrintWords Go.Proofs.YtijjecnmdhefbaaW.PrintLast Go.Proofs.YtijjecnmdhefbaaW.PrintMore Go.Proofs.Ytijjecnmdhefbaa.CD
set_option linter.unusedVariables false
set_option linter.unusedSimpArgs false
theorem bytes_bytesOf (s : ByteArray) : Bytes (bytesOf s) := fun x hx => by
  unfold bytesOf at hx
  obtain ⟨b, _, rfl⟩ := List.mem_map.1 hx
  have := b.toNat_lt
  omega
theorem str_bytesOf (s : ByteArray) : strOfNums (bytesOf s) = s := by
  have h : ((bytesOf s).map fun n => UInt8.ofNat n.toNat) = s.data.toList := by
    unfold bytesOf
    rw [List.map_map]
    refine (List.map_congr_left (g := id) fun b _ => ?_).trans (List.map_id _)
    simp
  unfold strOfNums
  rw [h]
theorem bytesOf_str (l : List Int) (h : Bytes l) : bytesOf (strOfNums l) = l := by
  unfold bytesOf strOfNums
  rw [List.map_map]
  refine (List.map_congr_left (g := id) fun x hx => ?_).trans (List.map_id _)
  obtain ⟨h0, h1⟩ := h x hx
  simp only [Function.comp_apply, id]
  rw [UInt8.toNat_ofNat', Nat.mod_eq_of_lt (by omega)]
  omega
theorem str_inj {l m : List Int} (hl : Bytes l) (hm : Bytes m) (h : strOfNums l = strOfNums m) : l = m := by rw [← bytesOf_str l hl, h, bytesOf_str m hm]
theorem bytesOf_inj {s t : ByteArray} (h : bytesOf s = bytesOf t) : s = t := by rw [← str_bytesOf s, h, str_bytesOf t]
theorem loop_eq (s : ByteArray) : ∀ (d i : Nat) (r : List UInt8), d = s.size - i → ByteArray.toList.loop s i r = r.reverse ++ s.data.toList.drop i := by
  intro d
  induction d with
  | zero =>
    intro i r h
    unfold ByteArray.toList.loop
    have : ¬ i < s.size := by omega
    rw [if_neg this, List.drop_eq_nil_of_le (by rw [Array.length_toList]; show s.size ≤ i; omega)]
    simp
  | succ d ih =>
    intro i r h
    unfold ByteArray.toList.loop
    have hi : i < s.size := by omega
    rw [if_pos hi, ih (i + 1) _ (by omega)]
    have hi' : i < s.data.toList.length := by rw [Array.length_toList]; exact hi
    rw [List.drop_eq_getElem_cons hi']
    simp [ByteArray.get!, hi]
theorem toList_eq (s : ByteArray) : s.toList = s.data.toList := by
  have := loop_eq s s.size 0 [] rfl
  simpa [ByteArray.toList] using this
theorem toList_inj {s t : ByteArray} (h : s.toList = t.toList) : s = t := by
  rw [toList_eq, toList_eq] at h
  exact ByteArray.ext (Array.toList_inj.1 h)
theorem beq_same (s : ByteArray) : (s.toList == s.toList) = true := beq_self_eq_true _
theorem beq_of {s t : ByteArray} (h : s = t) : (s.toList == t.toList) = true := by rw [h]; exact beq_self_eq_true _
theorem beq_not {s t : ByteArray} (h : s ≠ t) : (s.toList == t.toList) = false := beq_eq_false_iff_ne.2 (fun e => h (toList_inj e))
theorem size_bytesOf (s : ByteArray) : (bytesOf s).length = s.size := bytesOf_length s
theorem size_str (l : List Int) : (strOfNums l).size = l.length := by
  show (strOfNums l).data.size = _
  simp [strOfNums]
theorem str_append (l m : List Int) : strOfNums l ++ strOfNums m = strOfNums (l ++ m) := by
  apply ByteArray.ext
  simp [strOfNums, ByteArray.data_append]
theorem append_data (s t : ByteArray) : (s ++ t).data = s.data ++ t.data := ByteArray.data_append
theorem bytesOf_append (s t : ByteArray) : bytesOf (s ++ t) = bytesOf s ++ bytesOf t := by
  unfold bytesOf
  rw [append_data]
  simp
theorem str_append_left (s : ByteArray) (m : List Int) : s ++ strOfNums m = strOfNums (bytesOf s ++ m) := by
  rw [← str_append, str_bytesOf]
theorem bytesOf_extract (s : ByteArray) (a b : Nat) : bytesOf (s.extract a b) = ((bytesOf s).take b).drop a := by
  unfold bytesOf
  rw [ByteArray.data_extract]
  simp [List.map_take, List.map_drop, List.drop_take, List.extract_eq_take_drop]
theorem extract_str (s : ByteArray) (b : Nat) : s.extract 0 b = strOfNums ((bytesOf s).take b) := by
  rw [← str_bytesOf (s.extract 0 b), bytesOf_extract]
  simp
end Go.Proofs.Ytijjecnmdhefbaa.BS

namespace Go.Proofs.Ytijjecnmdhefbaa.BP
open Go.RowKit Go.Proofs.YtijjecnmdhefbaaW.PrintWords Go.Proofs.YtijjecnmdhefbaaW.PrintLast Go.Proofs.YtijjecnmdhefbaaW.PrintMore Go.Proofs.Ytijjecnmdhefbaa.CD Go.Proofs.Ytijjecnmdhefbaa.BR
set_option linter.unusedVariables false
set_option linter.unusedSimpArgs false
theorem put_calls (A : Option Addr) (c : Nat) (l : List Int) (n : Nat) (w : World) (hr : ReadsInt w .u8 A l.length l) (hc : l.length ≤ c) (hn : n < 18446744073709551616) (hl : l.length < 140737488355000) :
    Calls Try.prog 29 #[.slice A l.length c, .int .u64 (n : Int)] w fun e w' => ∃ v, e = .returned v ∧ OB w' w.heap.size v (l ++ num n) ∧ Below w.heap.size w w' :=
  (PRegionAgain.bytes_Put.calls 12 A c l (n : Int) _ w (Kd.C_of_reads (d := (0 : Int)) (h1 := fun _ => rfl) hr) hc (CF.put_f n l hn hl)).mono fun e w' ⟨v, he, hR, hb⟩ => ⟨v, he, OB.of_R hR, hb⟩
theorem put_nil (n : Nat) (w : World) (hn : n < 18446744073709551616) :
    Calls Try.prog 29 #[.slice none 0 0, .int .u64 (n : Int)] w fun e w' => ∃ v, e = .returned v ∧ OB w' w.heap.size v (num n) ∧ Below w.heap.size w w' :=
  put_calls none 0 [] n w ⟨rfl, by decide, fun h => absurd h (by decide)⟩ (Nat.le_refl _) hn (by decide)
end Go.Proofs.Ytijjecnmdhefbaa.BP

namespace Go.Proofs.Ytijjecnmdhefbaa.BR
open Go.RowKit Go.Proofs.YtijjecnmdhefbaaW.PrintWords Go.Proofs.YtijjecnmdhefbaaW.PrintLast Go.Proofs.YtijjecnmdhefbaaW.PrintMore
theorem OB.form {w : World} {base : Nat} {A : Option Addr} {n c : Nat} {l : List Int} (h : OB w base (.slice A n c) l) (hl : 0 < l.length) : ∃ g, A = some ⟨g, 0, none⟩ ∧ base ≤ g ∧ g < w.heap.size := by
  rcases h.2 with ⟨h', hn⟩ | ⟨g, cap, cur, h', hb, hh, _⟩
  · omega
  · injection h' with h'
    refine ⟨g, h', hb, ?_⟩
    have := World.ownsRow.lt h g (by rw [h']; rfl)
    exact this.2
theorem OB.at_ {W : World} {base g c : Nat} {l : List Int} (h : OB W base (.slice (some ⟨g, 0, none⟩) l.length c) l) (j : Nat) (hj : j < l.length) : W.cell? ⟨g, j, none⟩ = some (.int .u8 (rd l j)) ∧ W.frozen? ⟨g, j, none⟩ = false := own_at h (j : Int) (by omega) (by omega)
theorem OB.store {W : World} {base g c : Nat} {l : List Int} (h : OB W base (.slice (some ⟨g, 0, none⟩) l.length c) l) (j : Nat) (x : Int) :
    OB (W.setCell ⟨g, j, none⟩ (.int .u8 x)) base (.slice (some ⟨g, 0, none⟩) (l.set j x).length c) (l.set j x) := by
  have := (own_store h (j : Int) x).1
  simp only [OB, List.length_set]
  exact this
theorem reads_grown {w W : World} {k : IntKind} {A : Option Addr} {n g : Nat} {xs : List Int} (h : ReadsInt w k A n xs) (hg : w.grownBy W (some g)) (hf : ∀ ad, A = some ad → 0 < n → ad.block ≠ g) : ReadsInt W k A n xs := by
  refine ⟨h.1, h.2.1, fun hn => ?_⟩
  obtain ⟨ad, rfl, hc⟩ := h.2.2 hn
  exact ⟨ad, rfl, fun j hj => hg.cell (hc j hj) (fun e => hf ad rfl hn (by injection e with e; rw [add_block] at e; exact e))⟩
theorem OB.grown {w W : World} {base : Nat} {v : Value} {l : List Int} {g : Nat} (h : OB w base v l) (hg : w.grownBy W (some g)) (hf : v.ownBlock ≠ some g) : OB W base v l := by
  refine ⟨h.1, ?_⟩
  rcases h.2 with h' | ⟨b, cap, cur, hv, hb, hh, hr⟩
  · exact .inl h'
  · refine .inr ⟨b, cap, cur, hv, hb, ?_, hr⟩
    have hlt := World.ownsRow.lt h b (by rw [hv]; rfl)
    rw [hg.block b hlt.2 (fun e => hf (by rw [hv]; exact e))]
    exact hh
end Go.Proofs.Ytijjecnmdhefbaa.BR

namespace Go.Proofs.Ytijjecnmdhefbaa.BR
open Go.ChangeShapes Go.WideShapes Go.Deep Go.RowKit Go.Proofs.YtijjecnmdhefbaaW.PrintWords Go.Proofs.YtijjecnmdhefbaaW.PrintLast Go.Proofs.YtijjecnmdhefbaaW.PrintMore
set_option linter.unusedVariables false
set_option linter.unusedSimpArgs false
section
variable {H : Type} {enc : TypeId × Value → H} {P : Program} {w : World} {base : Nat} {spare : Nat → Bool} {held : Bool}
theorem elem_cells {e : TypeId} {fs : Array Field} {a : Addr} {cs : List Value} {x : DataW H × List MemPlace} {n : Nat} (he : P.underlying e = some (.struct fs)) (hone : oneCellFields P fs = true) (hC : P.cellsOf e = fs.size)
    (hc : w.cells? base a (P.cellsOf e) = some cs) (ht : DataW.trod enc P w base spare held n e cs = some x) (j : Nat) (f : Field) (hj : fs[j]? = some f) :
    ∃ (v : Value) (y : DataW H × List MemPlace) (m : Nat), w.cell? (a.add j) = some v ∧ DataW.trod enc P w base spare held m f.type [v] = some y := by
  obtain ⟨_, hl, hat⟩ := World.cells?_some hc
  obtain ⟨ys, m, _, _, hlen, hyl, hf⟩ := DataW.trod_struct he ht
  have hjl : j < fs.size := (Array.getElem?_eq_some_iff.1 hj).1
  have hjc : j < cs.length := by omega
  have hjy : j < ys.length := by omega
  obtain ⟨ho, hk⟩ := hone_of hone j f hj
  have h1 := hf j f hj
  rw [ho, hk] at h1
  have e1 : (cs.drop j).take 1 = [cs[j]] := by rw [List.drop_eq_getElem_cons hjc]; rfl
  exact ⟨cs[j], ys[j], m, (hat j (by omega)).trans (List.getElem?_eq_getElem hjc), by rw [← e1, h1]; exact List.getElem?_eq_getElem hjy⟩
/-- Each element's cells, field by field. -/
theorem row_cells {t e : TypeId} {fs : Array Field} {v : Value} {d : DataW H} {p : List MemPlace} {r : Reach} {b0 : Nat} (ht : P.underlying t = some (.slice e)) (he : P.underlying e = some (.struct fs))
    (hone : oneCellFields P fs = true) (hC : P.cellsOf e = fs.size) (hv : Value.okWide P w r b0 t v) (h : DataW.Trod enc P w base (fun _ => true) held t v d p) :
    (v = .slice none 0 0) ∨ ∃ (a : Addr) (len cap : Nat), v = .slice (some a) len cap ∧ len ≤ cap ∧ cap ≤ maxLen ∧
      ∀ i, i < len → ∀ (j : Nat) (f : Field), fs[j]? = some f → ∃ (u : Value) (y : DataW H × List MemPlace) (m : Nat), w.cell? (a.add (i * fs.size + j)) = some u ∧ DataW.trod enc P w base (fun _ => true) held m f.type [u] = some y := by
  obtain ⟨A, len, cap, rfl⟩ := okWide_slice ht hv
  obtain ⟨fuel, hf⟩ := h
  rcases open_slice ht hf with ⟨hcs, _⟩ | ⟨a, l, c, m, n, D, Pl, hcs, _, hl, hm, hmm, hx, hi⟩
  · left; simpa [Value.cells] using hcs
  · right
    simp [Value.cells] at hcs
    obtain ⟨rfl, rfl, rfl⟩ := hcs
    refine ⟨a, len, cap, rfl, hl, hm, fun i hil j f hj => ?_⟩
    obtain ⟨cs, hc, ht'⟩ := hi i (by rw [hmm]; simp; omega)
    obtain ⟨u, y, m', h1, h2⟩ := elem_cells he hone hC hc ht' j f hj
    refine ⟨u, y, m', ?_, h2⟩
    rw [← h1, Go.Deep.add_add, hC]
end
theorem at_field (a : Addr) (i k : Nat) (hk : 0 < k) : a.add (i + k) = ⟨(a.add i).block, (a.add i).off + k, none⟩ := by
  unfold Addr.add
  rw [if_neg (by omega)]
  split
  · subst_vars; simp
  · simp [Nat.add_assoc]
/-- A slice of pairs of whole numbers that is read. -/
def Pairs (w : World) (A : Option Addr) (n : Nat) (xs : List (Int × Int)) : Prop :=
  xs.length = n ∧ (0 < n → ∃ ad, A = some ad ∧ ∀ j, j < n → w.cell? (ad.add (j * 2)) = some (.int .i64 (xs.getD j (0, 0)).1) ∧ w.cell? (ad.add (j * 2 + 1)) = some (.int .i64 (xs.getD j (0, 0)).2)) ∧
    ∀ j, j < n → ((-9223372036854775808 ≤ (xs.getD j (0, 0)).1 ∧ (xs.getD j (0, 0)).1 ≤ 9223372036854775807) ∧ -9223372036854775808 ≤ (xs.getD j (0, 0)).2 ∧ (xs.getD j (0, 0)).2 ≤ 9223372036854775807)
theorem Pairs.below {w w1 : World} {A : Option Addr} {n : Nat} {xs : List (Int × Int)} (h : Pairs w A n xs) (hb : Below w.heap.size w w1) : Pairs w1 A n xs :=
  ⟨h.1, fun hn => by
    obtain ⟨ad, e, hc⟩ := h.2.1 hn
    exact ⟨ad, e, fun j hj => ⟨pw_cell_below hb (hc j hj).1, pw_cell_below hb (hc j hj).2⟩⟩, h.2.2⟩
theorem open_pairs {H : Type} {enc : TypeId × Value → H} {w : World} {base : Nat} {held : Bool} {r : Reach} {b0 : Nat} {t : TypeId} {e : TypeId} {f0 f1 : Field} {v : Value} {d : DataW H} {p : List MemPlace}
    (ht : Try.prog.underlying t = some (.slice e)) (he : Try.prog.underlying e = some (.struct #[f0, f1])) (hone : oneCellFields Try.prog #[f0, f1] = true) (hC : Try.prog.cellsOf e = 2)
    (h0 : Try.prog.underlying f0.type = some (.int .i64)) (h1 : Try.prog.underlying f1.type = some (.int .i64))
    (hv : Value.okWide Try.prog w r b0 t v) (h : DataW.Trod enc Try.prog w base (fun _ => true) held t v d p) :
    ∃ A n c xs, v = .slice A n c ∧ n ≤ c ∧ c ≤ maxLen ∧ Pairs w A n xs := by
  rcases row_cells ht he hone hC hv h with rfl | ⟨a, len, cap, rfl, hl, hm, hi⟩
  · exact ⟨none, 0, 0, [], rfl, Nat.le_refl _, by decide, rfl, fun h => absurd h (by decide), fun j hj => absurd hj (by omega)⟩
  · let val : Nat → Int := fun o => match w.cell? (a.add o) with | some (.int _ x) => x | _ => 0
    have hs : ∀ i, i < len → (w.cell? (a.add (i * 2)) = some (.int .i64 (val (i * 2))) ∧ (-9223372036854775808 ≤ val (i * 2) ∧ val (i * 2) ≤ 9223372036854775807)) ∧ (w.cell? (a.add (i * 2 + 1)) = some (.int .i64 (val (i * 2 + 1))) ∧ (-9223372036854775808 ≤ val (i * 2 + 1) ∧ val (i * 2 + 1) ≤ 9223372036854775807)) := by
      intro i hil
      constructor
      · obtain ⟨u, y, m, hc, htr⟩ := hi i hil 0 f0 rfl
        obtain ⟨x, hx, _, hw⟩ := DataW.trod_int h0 htr
        obtain rfl : u = .int .i64 x := by simpa using hx
        have hc' : w.cell? (a.add (i * 2)) = some (.int .i64 x) := hc
        have e1 : val (i * 2) = x := by simp only [val, hc']
        rw [e1]; exact ⟨hc', (Lit.wf_int_iff .i64 x).mp hw⟩
      · obtain ⟨u, y, m, hc, htr⟩ := hi i hil 1 f1 rfl
        obtain ⟨x, hx, _, hw⟩ := DataW.trod_int h1 htr
        obtain rfl : u = .int .i64 x := by simpa using hx
        have hc' : w.cell? (a.add (i * 2 + 1)) = some (.int .i64 x) := hc
        have e1 : val (i * 2 + 1) = x := by simp only [val, hc']
        rw [e1]; exact ⟨hc', (Lit.wf_int_iff .i64 x).mp hw⟩
    have hg : ∀ j, j < len → ((List.range len).map fun i => (val (i * 2), val (i * 2 + 1))).getD j (0, 0) = (val (j * 2), val (j * 2 + 1)) := by
      intro j hj
      rw [List.getD_eq_getElem?_getD, List.getElem?_map, List.getElem?_range hj]; rfl
    refine ⟨some a, len, cap, (List.range len).map fun i => (val (i * 2), val (i * 2 + 1)), rfl, hl, hm, by simp, fun _ => ⟨a, rfl, fun j hj => ?_⟩, fun j hj => ?_⟩
    · rw [hg j hj]; exact ⟨(hs j hj).1.1, (hs j hj).2.1⟩
    · rw [hg j hj]; exact ⟨(hs j hj).1.2, (hs j hj).2.2⟩
end Go.Proofs.Ytijjecnmdhefbaa.BR

namespace Go.Proofs.Ytijjecnmdhefbaa.RG
open Go.ChangeShapes Go.WideShapes Go.Deep Go.RowKit Go.Proofs.YtijjecnmdhefbaaW.PrintWords Go.Proofs.YtijjecnmdhefbaaW.PrintLast Go.Proofs.YtijjecnmdhefbaaW.PrintMore Go.Proofs.Ytijjecnmdhefbaa.CD Go.Proofs.Ytijjecnmdhefbaa.BR Go.Proofs.Ytijjecnmdhefbaa.BP
set_option linter.unusedVariables false
set_option linter.unusedSimpArgs false
/-- An entry: its place, its head, its size, its least. -/
abbrev Ent := Int × Int × Int × Int
def E0 : Ent := (0, 0, 0, 0)
def eMay (x : Ent) : Bool := decide ((0 ≤ x.1 ∧ x.1 ≤ 1023) ∧ (1 ≤ x.2.1 ∧ x.2.1 ≤ 131071) ∧ (1 ≤ x.2.2.1 ∧ x.2.2.1 ≤ 65536) ∧ 0 ≤ x.2.2.2 ∧ x.2.2.2 ≤ 2199023255552)
def eNums (was : Int) (x : Ent) : List Nat := [(x.1 - was - 1).toNat, x.2.1.toNat, x.2.2.1.toNat, x.2.2.2.toNat]
def nums4 (l : List Nat) : List Int := l.flatMap num
/-- The rest of a directory's bytes behind the place 'was', or why not. -/
def dirF : Int → List Ent → Except Int (List Int)
  | _, [] => .ok []
  | was, x :: l => if eMay x = false then .error 2 else if x.1 ≤ was then .error 6 else (dirF x.1 l).map (nums4 (eNums was x) ++ ·)
def dir (l : List Ent) : Except Int (List Int) := (dirF (-1) l).map (num l.length ++ ·)
def glue (b : List Int) (d : Except Int (List Int)) : Except Int (List Int) := d.map (b ++ ·)
theorem glue_glue (a b : List Int) (d : Except Int (List Int)) : glue a (glue b d) = glue (a ++ b) d := by
  cases d <;> simp [glue, Except.map]
theorem dirF_step (was : Int) (x : Ent) (l : List Ent) (h1 : eMay x = true) (h2 : ¬ x.1 ≤ was) : dirF was (x :: l) = glue (nums4 (eNums was x)) (dirF x.1 l) := by
  simp only [dirF]
  rw [h1, if_neg (by simp), if_neg h2]; rfl
theorem nums4_le (l : List Nat) : (nums4 l).length ≤ 10 * l.length := by
  induction l with
  | nil => simp [nums4]
  | cons n l ih => unfold nums4 at ih ⊢; rw [List.flatMap_cons, List.length_append, List.length_cons]; have := num_le n; omega
theorem entry_f (x : Ent) : PRegionAgain.region_entry.f x.1 x.2.1 x.2.2.1 x.2.2.2 = some (eMay x) := by
  obtain ⟨a, b, c, d⟩ := x
  unfold PRegionAgain.region_entry.f PRegionAgain.region_within.f eMay
  by_cases h1 : 0 ≤ a
  · by_cases h2 : a ≤ 1023
    · by_cases h3 : 1 ≤ b
      · by_cases h4 : b ≤ 131071
        · by_cases h5 : 1 ≤ c
          · by_cases h6 : c ≤ 65536
            · by_cases h7 : 0 ≤ d <;> simp [h1, h2, h3, h4, h5, h6, h7]
            · simp [h1, h2, h3, h4, h5, h6]
          · simp [h1, h2, h3, h4, h5]
        · simp [h1, h2, h3, h4]
      · simp [h1, h2, h3]
    · simp [h1, h2]
  · simp [h1]
theorem entry_calls (x : Ent) (w : World) : Calls Try.prog 30 #[.agg #[.int .i64 x.1, .int .i64 x.2.1, .int .i64 x.2.2.1, .int .i64 x.2.2.2]] w fun e w' => e = .returned (.bool (eMay x)) ∧ Below w.heap.size w w' :=
  PRegionAgain.region_entry.calls x.1 x.2.1 x.2.2.1 x.2.2.2 _ w (entry_f x)
theorem put_z (A : Option Addr) (c : Nat) (l : List Int) (z : Int) (w : World) (hr : ReadsInt w .u8 A l.length l) (hc : l.length ≤ c) (hz : 0 ≤ z ∧ z < 18446744073709551616) (hl : l.length < 140737488355000) :
    Calls Try.prog 29 #[.slice A l.length c, .int .u64 z] w fun e w' => ∃ v, e = .returned v ∧ OB w' w.heap.size v (l ++ num z.toNat) ∧ Below w.heap.size w w' := by
  have h := put_calls A c l z.toNat w hr hc (by omega) hl
  rw [Int.toNat_of_nonneg hz.1] at h
  exact h
theorem take4_0 (was : Int) (x : Ent) : nums4 ((eNums was x).take 0) ++ num (x.1 - was - 1).toNat = nums4 ((eNums was x).take 1) := by simp [nums4, eNums]
theorem take4_1 (was : Int) (x : Ent) : nums4 ((eNums was x).take 1) ++ num x.2.1.toNat = nums4 ((eNums was x).take 2) := by simp [nums4, eNums]
theorem take4_2 (was : Int) (x : Ent) : nums4 ((eNums was x).take 2) ++ num x.2.2.1.toNat = nums4 ((eNums was x).take 3) := by simp [nums4, eNums]
theorem take4_3 (was : Int) (x : Ent) : nums4 ((eNums was x).take 3) ++ num x.2.2.2.toNat = nums4 ((eNums was x).take 4) := by simp [nums4, eNums]
theorem ix0 (a b c d : Int) (W : World) : (Instr.index 63 (.agg #[.int .u64 a, .int .u64 b, .int .u64 c, .int .u64 d]) (.int .i64 0)).run Try.prog W = .ok (.int .u64 a) W := rfl
theorem ix1 (a b c d : Int) (W : World) : (Instr.index 63 (.agg #[.int .u64 a, .int .u64 b, .int .u64 c, .int .u64 d]) (.int .i64 1)).run Try.prog W = .ok (.int .u64 b) W := rfl
theorem ix2 (a b c d : Int) (W : World) : (Instr.index 63 (.agg #[.int .u64 a, .int .u64 b, .int .u64 c, .int .u64 d]) (.int .i64 2)).run Try.prog W = .ok (.int .u64 c) W := rfl
theorem ix3 (a b c d : Int) (W : World) : (Instr.index 63 (.agg #[.int .u64 a, .int .u64 b, .int .u64 c, .int .u64 d]) (.int .i64 3)).run Try.prog W = .ok (.int .u64 d) W := rfl
/-- A slice of entries that is read. -/
def Ents (w : World) (A : Option Addr) (n : Nat) (xs : List Ent) : Prop :=
  xs.length = n ∧ (∀ j, j < n → ∃ ad, A = some ad ∧ w.cell? (ad.add (j * 4)) = some (.int .i64 (xs.getD j E0).1) ∧ w.cell? ⟨(ad.add (j * 4)).block, (ad.add (j * 4)).off + 1, none⟩ = some (.int .i64 (xs.getD j E0).2.1) ∧ w.cell? ⟨(ad.add (j * 4)).block, (ad.add (j * 4)).off + 2, none⟩ = some (.int .i64 (xs.getD j E0).2.2.1) ∧ w.cell? ⟨(ad.add (j * 4)).block, (ad.add (j * 4)).off + 3, none⟩ = some (.int .i64 (xs.getD j E0).2.2.2))
theorem Ents.below {w w1 : World} {A : Option Addr} {n : Nat} {xs : List Ent} (h : Ents w A n xs) (hb : Below w.heap.size w w1) : Ents w1 A n xs :=
  ⟨h.1, fun j hj => by
    obtain ⟨ad, e, h0, h1, h2, h3⟩ := h.2 j hj
    exact ⟨ad, e, pw_cell_below hb h0, pw_cell_below hb h1, pw_cell_below hb h2, pw_cell_below hb h3⟩⟩
theorem OB.base' {w : World} {b b' : Nat} {v : Value} {l : List Int} (h : OB w b v l) (hb : b' ≤ b) : OB w b' v l := by
  refine ⟨h.1, ?_⟩
  rcases h.2 with h' | ⟨g, cap, cur, hv, hg, hh, hr⟩
  · exact .inl h'
  · exact .inr ⟨g, cap, cur, hv, Nat.le_trans hb hg, hh, hr⟩
/-- What a call that answers bytes or an error returns. -/
def Told (d : Except Int (List Int)) (w : World) (e : Ending) (w' : World) : Prop :=
  (match d with
    | .ok b => ∃ v, e = .returned (.tuple #[v, .int .i64 0]) ∧ OB w' w.heap.size v b
    | .error k => e = .returned (.tuple #[.slice none 0 0, .int .i64 k])) ∧ Below w.heap.size w w'
set_option maxHeartbeats 1000000 in
set_option maxRecDepth 100000 in
theorem put_region (A : Option Addr) (n c : Nat) (xs : List Ent) (w : World) (hn : n ≤ c) (hm : n ≤ 100000000) (hp : Ents w A n xs) :
    Calls Try.prog 14 #[.slice A n c] w fun e w' => Told (dir xs) w e w' := by
  have HP := Lib.hid hp
  have hq := hp.1
  obtain ⟨D, hD⟩ : ∃ D, D = dir xs := ⟨_, rfl⟩
  rw [← hD]
  have HD := Lib.hid (show D = glue (num n) (dirF (-1) (xs.drop 0)) by rw [hD]; unfold dir; rw [hq]; rfl)
  clear hp hD
  go_enter Try.func14, Try.ntmps14
  go_wp2_with fail
  refine (put_nil n _ (by omega)).mono ?_; rintro e w1 ⟨v1, rfl, ho1, hb1⟩; have HB1 := Lib.hid hb1; have HO1 := Lib.hid ho1; clear hb1 ho1
  go_wp2_with fail
  go_loopw [4, 5, 16] (fun bv wv iv W => ∃ (j : Nat) (was : Int) (L : List Int), j ≤ n ∧ iv = .int .i64 (j : Int) ∧ wv = .int .i64 was ∧ (-1 ≤ was ∧ was ≤ 1023) ∧ L.length ≤ 10 + 40 * j ∧ Aside0 (OB W w.heap.size bv L) ∧ Aside0 (D = glue L (dirF was (xs.drop j))) ∧ Aside0 (Below w.heap.size w W)) (fun _ _ iv _ => n - (intOf iv).toNat)
  case atStart => exact ⟨0, -1, num n, by omega, rfl, rfl, by omega, by have := num_le n; omega, ⟨HO1.out⟩, ⟨HD.out⟩, ⟨HB1.out⟩⟩
  case round =>
    obtain ⟨j, was, L, hj, rfl, rfl, hw, hLl, ⟨ho⟩, ⟨hd⟩, ⟨hb⟩⟩ := hrel
    have HBj := Lib.hid hb
    have HDj := Lib.hid hd
    obtain ⟨A5, c5, rfl, hc5, hr5⟩ := ho.slice
    have HO := Lib.hid ho
    have HR5 := Lib.hid hr5
    have HC5 := Lib.hid hc5
    clear hr5 hc5 ho hb hd
    by_cases hlt : j < n
    · obtain ⟨ad, rfl, z0, z1, z2, z3⟩ := (HP.out.below HBj.out).2 j hlt
      have HS := Lib.hid (show xs.drop j = xs.getD j E0 :: xs.drop (j + 1) by rw [List.drop_eq_getElem_cons (by omega), List.getD_eq_getElem?_getD, List.getElem?_eq_getElem (by omega)]; rfl)
      obtain ⟨x, hx⟩ : ∃ x, x = xs.getD j E0 := ⟨_, rfl⟩
      rw [← hx] at HS z0 z1 z2 z3
      clear hx
      go_wp2_with fail
      refine (entry_calls x _).mono ?_; rintro e w3 ⟨rfl, hb3⟩
      have HB3 := Lib.hid (below_step (below_alloc HBj.out _) hb3)
      have HB30 := Lib.hid (below_step (below_alloc (Below.refl wr.heap.size wr) _) hb3)
      have Hbx := blk_below (blk_new wr (.cells #[.int .i64 x.1, .int .i64 x.2.1, .int .i64 x.2.2.1, .int .i64 x.2.2.2] 49)) hb3
      have y0 := blk_cell Hbx 0
      have y1 := blk_cell Hbx 1
      have y2 := blk_cell Hbx 2
      have y3 := blk_cell Hbx 3
      simp only [List.getElem?_toArray, List.getElem?_cons_succ, List.getElem?_cons_zero] at y0 y1 y2 y3
      clear hb3 Hbx
      cases he : eMay x with
      | false =>
        have hfin : Hid (D = .error 2) := Lib.hid (by rw [HDj.out, HS.out]; simp [dirF, he, glue, Except.map])
        clear he
        go_wp2
        go_ret2
        rw [hfin.out]
        exact ⟨rfl, HB3.out⟩
      | true =>
        have hx := he
        unfold eMay at hx
        have hx := of_decide_eq_true hx
        by_cases hle : x.1 ≤ was
        · have hfin : Hid (D = .error 6) := Lib.hid (by rw [HDj.out, HS.out]; simp only [dirF]; rw [he, if_neg (by simp), if_pos hle]; rfl)
          clear he
          go_wp2
          go_ret2
          rw [hfin.out]
          exact ⟨rfl, HB3.out⟩
        · have hnext : Hid (D = glue (L ++ nums4 (eNums was x)) (dirF x.1 (xs.drop (j + 1)))) := Lib.hid (by rw [HDj.out, HS.out, dirF_step was x _ he hle, glue_glue])
          clear he
          have HY0 := Lib.hid y0
          have r0 : 0 ≤ x.1 - was - 1 ∧ x.1 - was - 1 < 18446744073709551616 := by omega
          have r1 : 0 ≤ x.2.1 ∧ x.2.1 < 18446744073709551616 := by omega
          have r2 : 0 ≤ x.2.2.1 ∧ x.2.2.1 < 18446744073709551616 := by omega
          have r3 : 0 ≤ x.2.2.2 ∧ x.2.2.2 < 18446744073709551616 := by omega
          have hw' : -1 ≤ x.1 ∧ x.1 ≤ 1023 := by omega
          go_wp2_with fail
          go_loopw [4, 43] (fun bv iv W => ∃ t : Nat, t ≤ 4 ∧ iv = .int .i64 (t : Int) ∧ Aside0 (OB W w.heap.size bv (L ++ nums4 ((eNums was x).take t))) ∧ Aside0 (Below w3.heap.size w3 W)) (fun _ iv _ => 4 - (intOf iv).toNat)
          case atStart => exact ⟨0, by omega, rfl, ⟨by rw [show L ++ nums4 ((eNums was x).take 0) = L by simp [nums4]]; exact OB.base' ((HO.out.below HB30.out)) (Nat.le_refl _)⟩, ⟨Below.refl _ _⟩⟩
          case round =>
            obtain ⟨t, ht, rfl, ⟨ho⟩, ⟨hb⟩⟩ := hrel
            have HBt := Lib.hid (below_step HB3.out hb)
            have HBt3 := Lib.hid hb
            have hLt : (L ++ nums4 ((eNums was x).take t)).length ≤ 10 + 40 * j + 40 := by
              have := nums4_le ((eNums was x).take t); rw [List.length_take] at this; rw [List.length_append]; have h4 : (eNums was x).length = 4 := rfl; omega
            by_cases h4 : t < 4
            · obtain ⟨M, hM⟩ : ∃ M, M = L ++ nums4 ((eNums was x).take t) := ⟨_, rfl⟩
              rw [← hM] at ho hLt
              obtain ⟨A6, c6, rfl, hc6, hr6⟩ := ho.slice
              have HC6 := Lib.hid hc6
              have HR6 := Lib.hid hr6
              have HM := Lib.hid hM
              clear ho hb hc6 hr6 hM
              rcases (by omega : t = 0 ∨ t = 1 ∨ t = 2 ∨ t = 3) with rfl | rfl | rfl | rfl
              all_goals (
                have k0 := ix0 (x.1 - was - 1) x.2.1 x.2.2.1 x.2.2.2
                have k1 := ix1 (x.1 - was - 1) x.2.1 x.2.2.1 x.2.2.2
                have k2 := ix2 (x.1 - was - 1) x.2.1 x.2.2.1 x.2.2.2
                have k3 := ix3 (x.1 - was - 1) x.2.1 x.2.2.1 x.2.2.2
                go_wp2_with fail
                refine (put_z A6 c6 M _ _ HR6.out HC6.out (by assumption) (by omega)).mono ?_; rintro e w6 ⟨v6, rfl, ho6, hb6⟩
                have HO6 := Lib.hid (OB.base' ho6 HBt.out.size)
                have HB6 := Lib.hid (below_step HBt3.out hb6)
                clear ho6 hb6
                go_wp2
                go_roundw
                case rel => first | exact ⟨1, by omega, rfl, ⟨by have h := HO6.out; rw [HM.out, List.append_assoc, take4_0] at h; exact h⟩, ⟨HB6.out⟩⟩ | exact ⟨2, by omega, rfl, ⟨by have h := HO6.out; rw [HM.out, List.append_assoc, take4_1] at h; exact h⟩, ⟨HB6.out⟩⟩ | exact ⟨3, by omega, rfl, ⟨by have h := HO6.out; rw [HM.out, List.append_assoc, take4_2] at h; exact h⟩, ⟨HB6.out⟩⟩ | exact ⟨4, by omega, rfl, ⟨by have h := HO6.out; rw [HM.out, List.append_assoc, take4_3] at h; exact h⟩, ⟨HB6.out⟩⟩
                case measure => simp [intOf])
            · have ht4 : t = 4 := by omega
              subst t
              have HO4 := Lib.hid ho
              have y0' := pw_cell_below hb HY0.out
              clear ho hb
              go_wp2
              go_roundw
              case rel => exact ⟨j + 1, x.1, _, by omega, by go_num, rfl, hw', by omega, ⟨HO4.out⟩, ⟨hnext.out⟩, ⟨HBt.out⟩⟩
              case measure => simp [intOf]; omega
    · have hjn : j = n := by omega
      subst j
      have hfin : D = .ok L := by rw [HDj.out, List.drop_of_length_le (by omega)]; simp [dirF, glue, Except.map]
      go_wp2
      go_ret2
      rw [hfin]
      exact ⟨⟨_, rfl, HO.out⟩, HBj.out⟩
end Go.Proofs.Ytijjecnmdhefbaa.RG

namespace Go.Proofs.Ytijjecnmdhefbaa.BR
open Go.RowKit Go.Proofs.YtijjecnmdhefbaaW.PrintWords Go.Proofs.YtijjecnmdhefbaaW.PrintLast Go.Proofs.YtijjecnmdhefbaaW.PrintMore Go.Proofs.Ytijjecnmdhefbaa.CD
set_option linter.unusedVariables false
set_option linter.unusedSimpArgs false
theorem xor0 (a : Nat) (ha : a < 9223372036854775808) : bits .xor .i64 (a : Int) 0 = (a : Int) := by
  have ha' : a % 2 ^ IntKind.i64.bits = a := Nat.mod_eq_of_lt (by simp only [IntKind.bits]; omega)
  simp only [bits, BitVec.ofInt_natCast, show BitVec.ofInt IntKind.i64.bits 0 = 0#_ from rfl, BitVec.xor_zero, BitVec.toNat_ofNat, ha']
  rw [IntKind.wrap_i64]; omega
theorem xor1 (a : Nat) (ha : a < 9223372036854775808) : bits .xor .i64 (a : Int) (-1) = -(a : Int) - 1 := by
  have ha' : a % 2 ^ 64 = a := Nat.mod_eq_of_lt (by omega)
  have h1 : BitVec.ofInt 64 (-1) = BitVec.allOnes 64 := by decide
  show IntKind.i64.wrap ((BitVec.ofInt 64 (a : Int) ^^^ BitVec.ofInt 64 (-1)).toNat : Int) = _
  rw [h1, BitVec.ofInt_natCast, BitVec.xor_allOnes, BitVec.toNat_not, BitVec.toNat_ofNat, ha', IntKind.wrap_i64]
  omega
theorem and1 (n : Nat) (hn : n < 18446744073709551616) : bits .and .u64 (n : Int) 1 = ((n % 2 : Nat) : Int) := by
  have := bits_mask .u64 64 (by decide) (fun n a b => by simp [IntKind.wrap, IntKind.bits, IntKind.signed]; omega) 1 (by decide) (n : Int) (by omega) (by omega)
  rw [show (2 : Int) ^ 1 - 1 = 1 by decide, show (2 : Int) ^ 1 = 2 by decide] at this
  rw [this]; omega
theorem xor_zag (n : Nat) (hn : n < 18446744073709551616) : bits .xor .i64 (wrap64 ((n : Int) / 2)) (wrap64 (-(wrap64 (bits .and .u64 (n : Int) 1)))) = zag n := by
  have e : wrap64 ((n : Int) / 2) = ((n / 2 : Nat) : Int) := by unfold wrap64; omega
  rw [and1 n hn, e]
  unfold zag
  by_cases h : n % 2 = 0
  · rw [if_pos h, h, show wrap64 (-(wrap64 ((0 : Nat) : Int))) = 0 by decide +kernel]
    exact xor0 _ (by omega)
  · rw [if_neg h, show n % 2 = 1 by omega, show wrap64 (-(wrap64 ((1 : Nat) : Int))) = -1 by decide +kernel]
    exact xor1 _ (by omega)
theorem rNum_lt (s : St) (h : Bytes s.1) : (rNum s).1 < 18446744073709551616 := by
  unfold rNum
  split
  · simp
  · split
    · simp
    · rename_i hk
      exact (dec_back s.1 h _ _ rfl hk).1
def rInt (s : St) : Int × St := if s.2 then (0, s) else (zag (rNum s).1, (rNum s).2)
theorem turned_calls (g : Nat) (xs : List Int) (br : Bool) (w : World) (h : Rdr w g xs br) :
    Calls Try.prog 53 #[.pointer (some ⟨g, 0, none⟩), .func (.func 36) #[.pointer (some ⟨g, 0, none⟩)] #[]] w fun e w' => e = .returned (.int .i64 (zag (rNum (xs, br)).1)) ∧ Rdr w' g (rNum (xs, br)).2.1 (rNum (xs, br)).2.2 ∧ w.grownBy w' (some g) := by
  have H := Lib.hid h
  clear h
  obtain ⟨q, hq⟩ : ∃ q, q = rNum (xs, br) := ⟨_, rfl⟩
  have HN0 := num_calls g xs br w H.out
  rw [← hq] at HN0 ⊢
  have HN := Lib.hid HN0
  have hql : q.1 < 18446744073709551616 := by rw [hq]; exact rNum_lt _ H.out.bytes
  have Hql := Lib.hid hql
  clear hq HN0 hql
  go_enter Try.func53, Try.ntmps53
  go_wp2_with (refine HN.out.mono ?_; rintro e w' ⟨rfl, hr, hg⟩)
  go_ret
  exact ⟨by rw [← xor_zag _ Hql.out]; rfl, hr, hg⟩
theorem int_calls (g : Nat) (xs : List Int) (br : Bool) (w : World) (h : Rdr w g xs br) :
    Calls Try.prog 46 #[.pointer (some ⟨g, 0, none⟩)] w fun e w' => e = .returned (.int .i64 (rInt (xs, br)).1) ∧ Rdr w' g (rInt (xs, br)).2.1 (rInt (xs, br)).2.2 ∧ w.grownBy w' (some g) := by
  have H := Lib.hid h
  clear h
  cases br with
  | true =>
    unfold rInt
    go_enter Try.func46, Try.ntmps46
    go_wp2_with (go_at_call 49; refine (fine_calls g xs true _ H.out).mono ?_; rintro e w' ⟨rfl, ⟨nd, rfl⟩⟩)
    go_ret
    exact ⟨rfl, H.out.drewN _, gdrewN (World.grownBy.refl _ _) _⟩
  | false =>
    have e : rInt (xs, false) = (zag (rNum (xs, false)).1, (rNum (xs, false)).2) := rfl
    rw [e]
    obtain ⟨q, hq⟩ : ∃ q, q = rNum (xs, false) := ⟨_, rfl⟩
    have HT0 := fun w' (h' : Rdr w' g xs false) => turned_calls g xs false w' h'
    rw [← hq] at HT0 ⊢
    have HT := Lib.hid HT0
    clear hq HT0 e
    go_enter Try.func46, Try.ntmps46
    go_wp2_with (first | (go_at_call 49; refine (fine_calls g xs false _ H.out).mono ?_; rintro e w' ⟨rfl, ⟨nd, rfl⟩⟩) | (go_at_call 53; refine (HT.out _ (H.out.drewN _)).mono ?_; rintro e w' ⟨rfl, hr, hg⟩))
    go_ret
    exact ⟨rfl, hr, gtrans (gdrewN (World.grownBy.refl _ _) _) hg⟩
end Go.Proofs.Ytijjecnmdhefbaa.BR

namespace Go.Proofs.Ytijjecnmdhefbaa.BQ
open Go.RowKit Go.Proofs.YtijjecnmdhefbaaW.PrintWords Go.Proofs.YtijjecnmdhefbaaW.PrintLast Go.Proofs.YtijjecnmdhefbaaW.PrintMore Go.Proofs.Ytijjecnmdhefbaa.CD Go.Proofs.Ytijjecnmdhefbaa.BR
set_option linter.unusedVariables false
set_option linter.unusedSimpArgs false
variable {p : Nat → Prop}

/-! ### worlds -/
/-- The reader at block g: xs is left; is it broken? -/
structure Rdr (p : Nat → Prop) (w : World) (g : Nat) (xs : List Int) (br : Bool) : Prop where
  cell : ∃ (A : Option Addr) (c : Nat), w.heap[g]? = some (.cells #[.slice A xs.length c, .bool true, .bool br] 81 (0, 0)) ∧ xs.length ≤ c ∧ ReadsInt w .u8 A xs.length xs ∧ (∀ ad, A = some ad → 0 < xs.length → ad.block ≠ g)
  small : xs.length ≤ 140737488355328
  bytes : Bytes xs
  dat : ∀ (A : Option Addr) (c : Nat), w.heap[g]? = some (.cells #[.slice A xs.length c, .bool true, .bool br] 81 (0, 0)) → ∀ ad, A = some ad → 0 < xs.length → p ad.block
theorem Rdr.imp {q : Nat → Prop} {w : World} {g : Nat} {xs : List Int} {br : Bool} (h : Rdr p w g xs br) (hq : ∀ k, p k → q k) : Rdr q w g xs br := ⟨h.cell, h.small, h.bytes, fun A c hb ad e h0 => hq _ (h.dat A c hb ad e h0)⟩
theorem Rdr.lt {w : World} {g : Nat} {xs : List Int} {br : Bool} (h : Rdr p w g xs br) : g < w.heap.size := by
  obtain ⟨A, c, hb, _⟩ := h.cell
  exact blk_lt hb
/-- Another block's turn leaves a reader. -/
theorem Rdr.kept {w w' : World} {g : Nat} {xs : List Int} {br : Bool} (h : Rdr p w g xs br) {row : Option Nat} (hg : w.grownBy w' row) (hne : some g ≠ row) (hdata : ∀ ad : Addr, some ad.block = row → ∀ A c, w.heap[g]? = some (.cells #[.slice A xs.length c, .bool true, .bool br] 81 (0, 0)) → 0 < xs.length → A ≠ some ad) : Rdr p w' g xs br := by
  obtain ⟨A, c, hb, hc, hr, hn⟩ := h.cell
  refine ⟨⟨A, c, (hg.block g (blk_lt hb) hne).trans hb, hc, reads_kept hr fun ad e h0 hl => hg.block _ hl (fun e2 => hdata ad e2 A c hb h0 e), hn⟩, h.small, h.bytes, fun A' c' hb' => h.dat A' c' ((hg.block g (blk_lt hb) hne).symm.trans hb')⟩
/-- What is written elsewhere leaves a reader. -/
theorem Rdr.far {w w' : World} {g : Nat} {xs : List Int} {br : Bool} (h : Rdr p w g xs br) {row : Option Nat} (hg : w.grownBy w' row) (hne : some g ≠ row) (hp : ∀ k, row = some k → ¬ p k) : Rdr p w' g xs br := by
  refine h.kept hg hne fun ad e A c hb h0 hA => hp ad.block e.symm (h.dat A c hb ad hA h0)
theorem Rdr.below {w w' : World} {g : Nat} {xs : List Int} {br : Bool} (h : Rdr p w g xs br) (hb : Below w.heap.size w w') : Rdr p w' g xs br :=
  h.kept (gofBelow (row := none) hb) (by simp) (fun ad e => by cases e)
theorem Rdr.drewN {w : World} {g : Nat} {xs : List Int} {br : Bool} (h : Rdr p w g xs br) (n : Nat) : Rdr p (w.drewN n) g xs br := h.below (pw_below_drewN (Below.refl _ _) n)
/-- It breaks. -/
theorem Rdr.breaks {w : World} {g : Nat} {xs : List Int} {br : Bool} (h : Rdr p w g xs br) : Rdr p (w.setCell ⟨g, 2, none⟩ (.bool true)) g xs true := by
  obtain ⟨A, c, hb, hc, hr, hn⟩ := h.cell
  refine ⟨⟨A, c, by rw [blk_set hb]; rfl, hc, reads_kept hr fun ad e h0 hl => Below.heap_setCell w _ _ _ (hn ad e h0), hn⟩, h.small, h.bytes, fun A' c' hb' => by
    have e1 : (w.setCell ⟨g, 2, none⟩ (.bool true)).heap[g]? = some (.cells #[.slice A xs.length c, .bool true, .bool true] 81 (0, 0)) := by rw [blk_set hb]; rfl
    rw [e1] at hb'
    simp only [Option.some.injEq, Obj.cells.injEq, Array.mk.injEq, List.cons.injEq, Value.slice.injEq, and_true, true_and] at hb'
    obtain ⟨rfl, rfl⟩ := hb'
    exact h.dat A c hb⟩
/-- It goes on behind m bytes. -/
theorem Rdr.moves {w : World} {g : Nat} {xs : List Int} {br : Bool} (h : Rdr p w g xs br) {A : Option Addr} {c : Nat} (hb : w.heap[g]? = some (.cells #[.slice A xs.length c, .bool true, .bool br] 81 (0, 0))) {m : Nat} (hm : m ≤ xs.length) {A' : Option Addr}
    (hr : ∀ w, ReadsInt w .u8 A xs.length xs → ReadsInt w .u8 A' (xs.drop m).length (xs.drop m)) (ha : ∀ ad', A' = some ad' → ∃ ad, A = some ad ∧ ad.block = ad'.block) :
    Rdr p (w.setCell ⟨g, 0, none⟩ (.slice A' (xs.length - m) (c - m))) g (xs.drop m) br := by
  obtain ⟨A2, c2, hb2, hc, hrd, hn⟩ := h.cell
  rw [hb2] at hb
  simp only [Option.some.injEq, Obj.cells.injEq, Array.mk.injEq, List.cons.injEq, Value.slice.injEq, and_true, true_and] at hb
  obtain ⟨rfl, rfl⟩ := hb
  have hl : (xs.drop m).length = xs.length - m := List.length_drop
  have hne : ∀ ad', A' = some ad' → 0 < (xs.drop m).length → ad'.block ≠ g := fun ad' e h0 => by
    obtain ⟨ad, e1, e2⟩ := ha ad' e
    rw [← e2]
    exact hn ad e1 (by omega)
  refine ⟨⟨A', c2 - m, by rw [blk_set hb2, hl]; rfl, by omega, reads_kept (hr w hrd) fun ad e h0 hlt => Below.heap_setCell w _ _ _ (hne ad e h0), hne⟩, by have := h.small; omega, h.bytes.drop m, fun A9 c9 hb9 ad9 e9 h9 => by
    have e1 : (w.setCell ⟨g, 0, none⟩ (.slice A' (xs.length - m) (c2 - m))).heap[g]? = some (.cells #[.slice A' (xs.drop m).length (c2 - m), .bool true, .bool br] 81 (0, 0)) := by rw [blk_set hb2, hl]; rfl
    rw [e1] at hb9
    simp only [Option.some.injEq, Obj.cells.injEq, Array.mk.injEq, List.cons.injEq, Value.slice.injEq, and_true, true_and] at hb9
    obtain ⟨rfl, rfl⟩ := hb9
    obtain ⟨ad, e1, e2⟩ := ha ad9 e9
    rw [← e2]
    exact h.dat A2 c2 hb2 ad e1 (by omega)⟩

/-! ### what a call does -/
theorem fine_calls (g : Nat) (xs : List Int) (br : Bool) (w : World) (h : Rdr p w g xs br) :
    Calls Try.prog 49 #[.pointer (some ⟨g, 0, none⟩)] w fun e w' => e = .returned (.bool (!br)) ∧ Drawn0 w w' := by
  obtain ⟨A, c, hb, hc, hr, hne⟩ := h.cell
  have h1 := blk_cell hb 1
  have h2 := blk_cell hb 2
  simp only [List.getElem?_toArray, List.getElem?_cons_succ, List.getElem?_cons_zero] at h1 h2
  clear hb hc hr hne h
  go_enter Try.func49, Try.ntmps49
  go_wp2
  go_ret
  exact ⟨rfl, by repeat (first | exact Drawn0.refl _ | apply Drawn0.step)⟩
theorem num_broken (g : Nat) (xs : List Int) (w : World) (h : Rdr p w g xs true) :
    Calls Try.prog 36 #[.pointer (some ⟨g, 0, none⟩)] w fun e w' => e = .returned (.int .u64 0) ∧ Rdr p w' g xs true ∧ w.grownBy w' (some g) := by
  have H := Lib.hid h
  clear h
  go_enter Try.func36, Try.ntmps36
  go_wp2_with (go_at_call 49; refine (fine_calls g xs true _ H.out).mono ?_; rintro e w' ⟨rfl, ⟨nd, rfl⟩⟩)
  go_ret
  exact ⟨rfl, H.out.drewN _, gdrewN (World.grownBy.refl _ _) _⟩
theorem num_no (g : Nat) (xs : List Int) (w : World) (h : Rdr p w g xs false) (hk : (dec xs).2 = 0) :
    Calls Try.prog 36 #[.pointer (some ⟨g, 0, none⟩)] w fun e w' => e = .returned (.int .u64 0) ∧ Rdr p w' g xs true ∧ w.grownBy w' (some g) := by
  have H := Lib.hid h
  obtain ⟨A, c, hb, hc, hr, hne⟩ := h.cell
  have h0 := blk_cell hb 0
  have h2 := blk_cell hb 2
  have f2 := blk_frozen hb 2
  simp only [List.getElem?_toArray, List.getElem?_cons_succ, List.getElem?_cons_zero] at h0 h2
  have HN0 := fun w' (hd : ReadsInt w' .u8 A xs.length xs) => number_calls A c xs w' hd hc h.bytes h.small
  rw [hk] at HN0
  have HN := Lib.hid HN0
  have Hr := Lib.hid hr
  clear hb hc hr hne h hk HN0
  go_enter Try.func36, Try.ntmps36
  go_wp2_with (first | (go_at_call 49; refine (fine_calls g xs false _ H.out).mono ?_; rintro e w' ⟨rfl, ⟨nd, rfl⟩⟩) | (go_at_call 50; refine (HN.out _ (Hr.out.below (pw_below_drewN (Below.refl _ _) _))).mono ?_; rintro e w' ⟨rfl, ⟨nd2, rfl⟩⟩))
  go_ret
  exact ⟨rfl, (H.out.drewN _).breaks, gset (gdrewN (World.grownBy.refl _ _) _) _ _⟩
set_option maxRecDepth 100000 in
theorem num_ok (g : Nat) (xs : List Int) (w : World) (h : Rdr p w g xs false) (m k : Nat) (hd : dec xs = (m, k)) (hk : k ≠ 0) :
    Calls Try.prog 36 #[.pointer (some ⟨g, 0, none⟩)] w fun e w' => e = .returned (.int .u64 (m : Int)) ∧ Rdr p w' g (xs.drop k) false ∧ w.grownBy w' (some g) := by
  have H := Lib.hid h
  obtain ⟨A, c, hb, hc, hr, hne⟩ := h.cell
  have hkl := (dec_back xs h.bytes m k hd hk).2.2.2.1
  have h0 := blk_cell hb 0
  have f0 := blk_frozen hb 0
  simp only [List.getElem?_toArray, List.getElem?_cons_succ, List.getElem?_cons_zero] at h0
  obtain ⟨A', hcut, hrd, hA'⟩ := cutFrom A xs c k hkl hc
  have HB := Lib.hid hb
  have HM := Lib.hid hrd
  have HA := Lib.hid hA'
  have HN0 := fun w' (hd : ReadsInt w' .u8 A xs.length xs) => number_calls A c xs w' hd hc h.bytes h.small
  rw [hd] at HN0
  have HN := Lib.hid HN0
  have Hr := Lib.hid hr
  have hk0 : (((k : Nat) : Int) == 0) = false := by rw [beq_eq_false_iff_ne]; omega
  have hk1 : ((k : Nat) : Int) ≤ (xs.length : Int) := by omega
  have Hkl := Lib.hid hkl
  clear hb hc hr hne h hd hk HN0 hrd hA' hkl
  go_enter Try.func36, Try.ntmps36
  go_wp2_with (first | (go_at_call 49; refine (fine_calls g xs false _ H.out).mono ?_; rintro e w' ⟨rfl, ⟨nd, rfl⟩⟩) | (go_at_call 50; refine (HN.out _ (Hr.out.below (pw_below_drewN (Below.refl _ _) _))).mono ?_; rintro e w' ⟨rfl, ⟨nd2, rfl⟩⟩))
  go_ret
  exact ⟨rfl, (H.out.drewN _).moves (blk_drewN HB.out _) Hkl.out HM.out HA.out, gset (gdrewN (World.grownBy.refl _ _) _) _ _⟩
theorem num_calls (g : Nat) (xs : List Int) (br : Bool) (w : World) (h : Rdr p w g xs br) :
    Calls Try.prog 36 #[.pointer (some ⟨g, 0, none⟩)] w fun e w' => e = .returned (.int .u64 ((rNum (xs, br)).1 : Int)) ∧ Rdr p w' g (rNum (xs, br)).2.1 (rNum (xs, br)).2.2 ∧ w.grownBy w' (some g) := by
  unfold rNum
  cases br with
  | true => exact num_broken g xs w h
  | false =>
    simp only [Bool.false_eq_true, if_false]
    by_cases hk : (dec xs).2 = 0
    · rw [if_pos hk]; exact num_no g xs w h hk
    · rw [if_neg hk]; exact num_ok g xs w h _ _ rfl hk
theorem Rdr.new {w1 : World} {A1 : Option Addr} {c1 : Nat} {xs : List Int} (hr : ReadsInt w1 .u8 A1 xs.length xs) (hc : xs.length ≤ c1) (hb : Bytes xs) (hs : xs.length ≤ 140737488355328) (hp : ∀ ad, A1 = some ad → 0 < xs.length → p ad.block) :
    Rdr p (w1.alloc (.cells #[.slice A1 xs.length c1, .bool true, .bool false] 81)) w1.heap.size xs false := by
  refine ⟨⟨A1, c1, blk_new _ _, hc, hr.below (below_alloc (Below.refl _ _) _), fun ad e h0 e2 => ?_⟩, hs, hb, fun A c h => by
    rw [blk_new] at h
    simp only [Option.some.injEq, Obj.cells.injEq, Array.mk.injEq, List.cons.injEq, Value.slice.injEq, and_true, true_and] at h
    obtain ⟨rfl, rfl⟩ := h
    exact hp⟩
  obtain ⟨ad', e', hcell⟩ := hr.2.2 h0
  rw [e] at e'
  obtain rfl := Option.some.inj e'
  have := World.block_lt_of_cell? w1 _ (hcell 0 h0)
  have hbk : (ad.add 0).block = ad.block := by unfold Addr.add; split <;> rfl
  omega
set_option maxHeartbeats 400000 in
set_option maxRecDepth 100000 in
theorem new_calls (A : Option Addr) (c : Nat) (xs : List Int) (w : World) (hr : ReadsInt w .u8 A xs.length xs) (hc : xs.length ≤ c) (hb : Bytes xs) (hs : xs.length ≤ 140737488355328) :
    Calls Try.prog 33 #[.slice A xs.length c] w fun e w' => ∃ g, e = .returned (.pointer (some ⟨g, 0, none⟩)) ∧ w.heap.size ≤ g ∧ Rdr (fun k => w.heap.size ≤ k ∧ k < g) w' g xs false ∧ Below w.heap.size w w' := by
  have Hr := Lib.hid hr
  clear hr
  go_enter Try.func33, Try.ntmps33
  go_wp2_with (at_builtin; refine print_append_row (w0 := w) w.heap.size rfl (.tmp 3) (.tmp 4) 34 5 .u8 1 rfl Try.underlying34 infoU8 (by decide) (.slice (some ⟨w.heap.size, 0, none⟩) 0 0) [] xs A xs.length c rfl rfl ?own ?reads ?below ?size ?len ?_; (case own => exact OB.empty w _ (Nat.le_refl _)); (case reads => exact Hr.out.below (below_alloc (Below.refl _ _) _)); (case below => exact below_alloc (Below.refl _ _) _); (case size => simp); (case len => simp; omega); intro v1 w1 hown hb1 hg hat; rw [List.nil_append] at hown; obtain ⟨A1, c1, rfl, hc1, hr1⟩ := OB.slice hown; have HO := Lib.hid hown; have HB := Lib.hid hb1; have HR := Lib.hid hr1; clear hown hb1 hr1 hg hat)
  go_ret
  refine ⟨w1.heap.size, rfl, HB.out.size, Rdr.new HR.out hc1 hb hs (fun ad e h0 => ⟨own_base HO.out ad.block (by rw [e]; rfl), own_lt HO.out ad.block (by rw [e]; rfl)⟩), below_alloc HB.out _⟩
/-- Err. -/
theorem err_calls (g : Nat) (xs : List Int) (br : Bool) (w : World) (h : Rdr p w g xs br) :
    Calls Try.prog 37 #[.pointer (some ⟨g, 0, none⟩)] w fun e w' => e = .returned (.int .i64 (if br then 4 else 0)) ∧ Drawn0 w w' := by
  obtain ⟨A, c, hb, hc, hr, hne⟩ := h.cell
  have h1 := blk_cell hb 1
  have h2 := blk_cell hb 2
  simp only [List.getElem?_toArray, List.getElem?_cons_succ, List.getElem?_cons_zero] at h1 h2
  clear hb hc hr hne h
  cases br
  all_goals
    go_enter Try.func37, Try.ntmps37
    go_wp2
    go_ret
    exact ⟨rfl, by repeat (first | exact Drawn0.refl _ | apply Drawn0.step)⟩
theorem turned_calls (g : Nat) (xs : List Int) (br : Bool) (w : World) (h : Rdr p w g xs br) :
    Calls Try.prog 53 #[.pointer (some ⟨g, 0, none⟩), .func (.func 36) #[.pointer (some ⟨g, 0, none⟩)] #[]] w fun e w' => e = .returned (.int .i64 (zag (rNum (xs, br)).1)) ∧ Rdr p w' g (rNum (xs, br)).2.1 (rNum (xs, br)).2.2 ∧ w.grownBy w' (some g) := by
  have H := Lib.hid h
  clear h
  obtain ⟨q, hq⟩ : ∃ q, q = rNum (xs, br) := ⟨_, rfl⟩
  have HN0 := num_calls g xs br w H.out
  rw [← hq] at HN0 ⊢
  have HN := Lib.hid HN0
  have hql : q.1 < 18446744073709551616 := by rw [hq]; exact rNum_lt _ H.out.bytes
  have Hql := Lib.hid hql
  clear hq HN0 hql
  go_enter Try.func53, Try.ntmps53
  go_wp2_with (refine HN.out.mono ?_; rintro e w' ⟨rfl, hr, hg⟩)
  go_ret
  exact ⟨by rw [← xor_zag _ Hql.out]; rfl, hr, hg⟩
theorem int_calls (g : Nat) (xs : List Int) (br : Bool) (w : World) (h : Rdr p w g xs br) :
    Calls Try.prog 46 #[.pointer (some ⟨g, 0, none⟩)] w fun e w' => e = .returned (.int .i64 (rInt (xs, br)).1) ∧ Rdr p w' g (rInt (xs, br)).2.1 (rInt (xs, br)).2.2 ∧ w.grownBy w' (some g) := by
  have H := Lib.hid h
  clear h
  cases br with
  | true =>
    unfold rInt
    go_enter Try.func46, Try.ntmps46
    go_wp2_with (go_at_call 49; refine (fine_calls g xs true _ H.out).mono ?_; rintro e w' ⟨rfl, ⟨nd, rfl⟩⟩)
    go_ret
    exact ⟨rfl, H.out.drewN _, gdrewN (World.grownBy.refl _ _) _⟩
  | false =>
    have e : rInt (xs, false) = (zag (rNum (xs, false)).1, (rNum (xs, false)).2) := rfl
    rw [e]
    obtain ⟨q, hq⟩ : ∃ q, q = rNum (xs, false) := ⟨_, rfl⟩
    have HT0 := fun w' (h' : Rdr p w' g xs false) => turned_calls g xs false w' h'
    rw [← hq] at HT0 ⊢
    have HT := Lib.hid HT0
    clear hq HT0 e
    go_enter Try.func46, Try.ntmps46
    go_wp2_with (first | (go_at_call 49; refine (fine_calls g xs false _ H.out).mono ?_; rintro e w' ⟨rfl, ⟨nd, rfl⟩⟩) | (go_at_call 53; refine (HT.out _ (H.out.drewN _)).mono ?_; rintro e w' ⟨rfl, hr, hg⟩))
    go_ret
    exact ⟨rfl, hr, gtrans (gdrewN (World.grownBy.refl _ _) _) hg⟩
end Go.Proofs.Ytijjecnmdhefbaa.BQ

namespace Go.Proofs.Ytijjecnmdhefbaa.RG
open Go.ChangeShapes Go.WideShapes Go.Deep Go.RowKit Go.Proofs.YtijjecnmdhefbaaW.PrintWords Go.Proofs.YtijjecnmdhefbaaW.PrintLast Go.Proofs.YtijjecnmdhefbaaW.PrintMore Go.Proofs.Ytijjecnmdhefbaa.CD Go.Proofs.Ytijjecnmdhefbaa.BR Go.Proofs.Ytijjecnmdhefbaa.BP
set_option linter.unusedVariables false
set_option linter.unusedSimpArgs false
def kE : Kd Ent := Kd.pair (Kd.int .i64) (Kd.pair (Kd.int .i64) (Kd.pair (Kd.int .i64) (Kd.int .i64)))
def eCells (x : Ent) : List Value := [.int .i64 x.1, .int .i64 x.2.1, .int .i64 x.2.2.1, .int .i64 x.2.2.2]
theorem kE_open {w : World} {x : Ent} {cs : List Value} (h : kE.K w x cs) : cs = eCells x := by
  obtain ⟨_, _, rfl, rfl, ⟨_, _, rfl, rfl, ⟨_, _, rfl, rfl, rfl⟩⟩⟩ := h
  rfl
theorem kE_mk (w : World) (x : Ent) : kE.K w x (eCells x) := ⟨[.int .i64 x.1], [.int .i64 x.2.1, .int .i64 x.2.2.1, .int .i64 x.2.2.2], rfl, rfl, ⟨[.int .i64 x.2.1], [.int .i64 x.2.2.1, .int .i64 x.2.2.2], rfl, rfl, ⟨[.int .i64 x.2.2.1], [.int .i64 x.2.2.2], rfl, rfl, rfl⟩⟩⟩
theorem kE_mkM (w : World) (base : Nat) (ok : Nat → Prop) (x : Ent) : kE.M w base ok x (eCells x) := ⟨[.int .i64 x.1], [.int .i64 x.2.1, .int .i64 x.2.2.1, .int .i64 x.2.2.2], rfl, rfl, ⟨[.int .i64 x.2.1], [.int .i64 x.2.2.1, .int .i64 x.2.2.2], rfl, rfl, ⟨[.int .i64 x.2.2.1], [.int .i64 x.2.2.2], rfl, rfl, rfl⟩⟩⟩
theorem ents_of_C {w : World} {A : Option Addr} {n : Nat} {xs : List Ent} (h : Kd.C kE w A n xs) : Ents w A n xs := by
  refine ⟨h.1, fun j hj => ?_⟩
  obtain ⟨ad, e, hc⟩ := h.2.2 (by omega)
  obtain ⟨c, hl, hk, hcell⟩ := hc j (xs.getD j E0) (by rw [List.getD_eq_getElem?_getD, List.getElem?_eq_getElem (by have := h.1; omega)]; rfl)
  obtain rfl := kE_open hk
  refine ⟨ad, e, hcell 0 _ rfl, ?_, ?_, ?_⟩
  · rw [← at_field ad (j * 4) 1 (by decide)]; exact hcell 1 _ rfl
  · rw [← at_field ad (j * 4) 2 (by decide)]; exact hcell 2 _ rfl
  · rw [← at_field ad (j * 4) 3 (by decide)]; exact hcell 3 _ rfl
/-- An argument that is a slice of four whole numbers. -/
theorem open_ents {H : Type} {enc : TypeId × Value → H} {w : World} {base : Nat} {held : Bool} {r : Reach} {b0 : Nat} {t : TypeId} {e : TypeId} {f0 f1 f2 f3 : Field} {v : Value} {d : DataW H} {p : List MemPlace}
    (ht : Try.prog.underlying t = some (.slice e)) (he : Try.prog.underlying e = some (.struct #[f0, f1, f2, f3])) (hone : oneCellFields Try.prog #[f0, f1, f2, f3] = true) (hC : Try.prog.cellsOf e = 4)
    (h0 : Try.prog.underlying f0.type = some (.int .i64)) (h1 : Try.prog.underlying f1.type = some (.int .i64)) (h2 : Try.prog.underlying f2.type = some (.int .i64)) (h3 : Try.prog.underlying f3.type = some (.int .i64))
    (hv : Value.okWide Try.prog w r b0 t v) (h : DataW.Trod enc Try.prog w base (fun _ => true) held t v d p) :
    ∃ A n c xs, v = .slice A n c ∧ n ≤ c ∧ c ≤ maxLen ∧ Kd.C kE w A n xs ∧ (∀ x ∈ xs, (-9223372036854775808 ≤ x.1 ∧ x.1 ≤ 9223372036854775807) ∧ (-9223372036854775808 ≤ x.2.1 ∧ x.2.1 ≤ 9223372036854775807) ∧ (-9223372036854775808 ≤ x.2.2.1 ∧ x.2.2.1 ≤ 9223372036854775807) ∧ -9223372036854775808 ≤ x.2.2.2 ∧ x.2.2.2 ≤ 9223372036854775807) := by
  rcases row_cells ht he hone hC hv h with rfl | ⟨a, len, cap, rfl, hl, hm, hi⟩
  · exact ⟨none, 0, 0, [], rfl, Nat.le_refl _, by decide, ⟨rfl, by decide, fun h => absurd h (by decide)⟩, fun x hx => by cases hx⟩
  · let val : Nat → Int := fun o => match w.cell? (a.add o) with | some (.int _ x) => x | _ => 0
    have hone1 : ∀ i, i < len → ∀ (j : Nat) (f : Field), (#[f0, f1, f2, f3] : Array Field)[j]? = some f → Try.prog.underlying f.type = some (.int .i64) → w.cell? (a.add (i * 4 + j)) = some (.int .i64 (val (i * 4 + j))) ∧ (-9223372036854775808 ≤ val (i * 4 + j) ∧ val (i * 4 + j) ≤ 9223372036854775807) := by
      intro i hil j f hj hu
      obtain ⟨u, y, m, hc, htr⟩ := hi i hil j f hj
      obtain ⟨x, hx, _, hw⟩ := DataW.trod_int hu htr
      obtain rfl : u = .int .i64 x := by simpa using hx
      have hc' : w.cell? (a.add (i * 4 + j)) = some (.int .i64 x) := hc
      have e1 : val (i * 4 + j) = x := by simp only [val, hc']
      rw [e1]; exact ⟨hc', (Lit.wf_int_iff .i64 x).mp hw⟩
    refine ⟨some a, len, cap, (List.range len).map fun i => ((val (i * 4 + 0), val (i * 4 + 1), val (i * 4 + 2), val (i * 4 + 3)) : Ent), rfl, hl, hm, ⟨by simp, by simp only [maxLen] at hm; omega, fun _ => ⟨a, rfl, fun j p hj => ?_⟩⟩, fun x hx => ?_⟩
    · have hjl := (List.getElem?_eq_some_iff.1 hj).1
      rw [List.length_map, List.length_range] at hjl
      rw [List.getElem?_map, List.getElem?_range hjl] at hj
      obtain rfl : _ = p := by simpa using hj
      refine ⟨_, rfl, kE_mk _ _, fun i u hu => ?_⟩
      match i, hu with
      | 0, hu => obtain rfl : _ = u := by simpa [eCells] using hu
                 exact (hone1 j hjl 0 f0 rfl h0).1
      | 1, hu => obtain rfl : _ = u := by simpa [eCells] using hu
                 exact (hone1 j hjl 1 f1 rfl h1).1
      | 2, hu => obtain rfl : _ = u := by simpa [eCells] using hu
                 exact (hone1 j hjl 2 f2 rfl h2).1
      | 3, hu => obtain rfl : _ = u := by simpa [eCells] using hu
                 exact (hone1 j hjl 3 f3 rfl h3).1
      | i + 4, hu => simp [eCells] at hu
    · obtain ⟨i, hil, rfl⟩ := List.mem_map.1 hx
      have hil := List.mem_range.1 hil
      exact ⟨(hone1 i hil 0 f0 rfl h0).2, (hone1 i hil 1 f1 rfl h1).2, (hone1 i hil 2 f2 rfl h2).2, (hone1 i hil 3 f3 rfl h3).2⟩
/-- The first ones of a row that is read. -/
theorem C_take {w : World} {A : Option Addr} {n : Nat} {xs : List Ent} (h : Kd.C kE w A n xs) (m : Nat) (hm : m ≤ n) : Kd.C kE w A m (xs.take m) := by
  refine ⟨by rw [List.length_take]; have := h.1; omega, Nat.le_trans hm h.2.1, fun h0 => ?_⟩
  obtain ⟨ad, e, hc⟩ := h.2.2 (by omega)
  exact ⟨ad, e, fun j p hj => hc j p (by rw [List.getElem?_take] at hj; split at hj <;> simp_all)⟩
end Go.Proofs.Ytijjecnmdhefbaa.RG

namespace Go.Proofs.Ytijjecnmdhefbaa.RG
open Go.RowKit Go.Proofs.Ytijjecnmdhefbaa.CD Go.Proofs.Ytijjecnmdhefbaa.BR
set_option linter.unusedVariables false
set_option linter.unusedSimpArgs false
/-- A number, if it is at most 2^62; else -1. -/
def rNext (s : St) : Int × St := (if (rNum s).1 > 4611686018427387904 then -1 else ((rNum s).1 : Int), (rNum s).2)
/-- One entry more: its distance, it, what is left. -/
def rEntry (at_ : Int) (s : St) : Int × Ent × St :=
  ((rNext s).1, (at_ + (1 + (rNext s).1), (rNext (rNext s).2).1, (rNext (rNext (rNext s).2).2).1, (rNext (rNext (rNext (rNext s).2).2).2).1), (rNext (rNext (rNext (rNext s).2).2).2).2)
def getF : Nat → Int → St → Int → List Ent → Option (List Ent × St)
  | 0, _, _, _, _ => none
  | f + 1, n, s, at_, acc =>
    if (acc.length : Int) < n ∧ s.2 = false then
      if 0 ≤ (rEntry at_ s).1 ∧ (rEntry at_ s).1 ≤ 1024 then
        if eMay (rEntry at_ s).2.1 = true then getF f n (rEntry at_ s).2.2 (rEntry at_ s).2.1.1 (acc ++ [(rEntry at_ s).2.1]) else none
      else none
    else some (acc, s)
def getD0 (X : List Int) : Option (List Ent × St) := getF 1025 (rNext (X, false)).1 (rNext (X, false)).2 (-1) []
/-- What was read is laid again. -/
def fin (X : List Int) : Option (List Ent × St) → Option (List Ent)
  | none => none
  | some (l, s) =>
    match dir l with
    | .ok b => if b = X ∧ s.2 = false then some l else none
    | .error _ => none
/-- The directory that bytes are. -/
def getDir (X : List Int) : Option (List Ent) := fin X (getD0 X)
theorem fin_err (X : List Int) (l : List Ent) (s : St) (k : Int) (h : dir l = .error k) : fin X (some (l, s)) = none := by simp only [fin]; rw [h]
theorem fin_ok (X : List Int) (l : List Ent) (s : St) (b : List Int) (h : dir l = .ok b) : fin X (some (l, s)) = if b = X ∧ s.2 = false then some l else none := by simp only [fin]; rw [h]
theorem rNext_range (s : St) (h : Bytes s.1) : -1 ≤ (rNext s).1 ∧ (rNext s).1 ≤ 4611686018427387904 := by
  unfold rNext
  simp only
  split <;> omega
theorem rNum_state (s : St) : (rNum s).2.1 = s.1 ∨ ∃ k, (rNum s).2.1 = s.1.drop k := by
  unfold rNum
  split
  · exact .inl rfl
  · split
    · exact .inl rfl
    · exact .inr ⟨_, rfl⟩
theorem rNum_bytes (s : St) (h : Bytes s.1) : Bytes (rNum s).2.1 := by
  rcases rNum_state s with e | ⟨k, e⟩
  · rw [e]; exact h
  · rw [e]; exact h.drop k
theorem rNext_bytes (s : St) (h : Bytes s.1) : Bytes (rNext s).2.1 := rNum_bytes s h
theorem getF_some : ∀ (f : Nat) (n : Int) (s : St) (at_ : Int) (acc : List Ent), (acc.length : Int) < n ∧ s.2 = false → 0 ≤ (rEntry at_ s).1 ∧ (rEntry at_ s).1 ≤ 1024 → eMay (rEntry at_ s).2.1 = true →
    getF (f + 1) n s at_ acc = getF f n (rEntry at_ s).2.2 (rEntry at_ s).2.1.1 (acc ++ [(rEntry at_ s).2.1]) := by
  intro f n s at_ acc h1 h2 h3
  rw [getF, if_pos h1, if_pos h2, if_pos h3]
theorem getF_by (f : Nat) (n : Int) (s : St) (at_ : Int) (acc : List Ent) (h1 : (acc.length : Int) < n ∧ s.2 = false) (h2 : ¬ (0 ≤ (rEntry at_ s).1 ∧ (rEntry at_ s).1 ≤ 1024)) : getF (f + 1) n s at_ acc = none := by
  rw [getF, if_pos h1, if_neg h2]
theorem getF_may (f : Nat) (n : Int) (s : St) (at_ : Int) (acc : List Ent) (h1 : (acc.length : Int) < n ∧ s.2 = false) (h2 : 0 ≤ (rEntry at_ s).1 ∧ (rEntry at_ s).1 ≤ 1024) (h3 : eMay (rEntry at_ s).2.1 = false) : getF (f + 1) n s at_ acc = none := by
  rw [getF, if_pos h1, if_pos h2, h3]; rfl
theorem getF_end (f : Nat) (n : Int) (s : St) (at_ : Int) (acc : List Ent) (h1 : ¬ ((acc.length : Int) < n ∧ s.2 = false)) : getF (f + 1) n s at_ acc = some (acc, s) := by
  rw [getF, if_neg h1]
end Go.Proofs.Ytijjecnmdhefbaa.RG

namespace Go.Proofs.Ytijjecnmdhefbaa.RG
open Go.RowKit Go.Proofs.YtijjecnmdhefbaaW.PrintWords Go.Proofs.YtijjecnmdhefbaaW.PrintLast Go.Proofs.YtijjecnmdhefbaaW.PrintMore Go.Proofs.Ytijjecnmdhefbaa.CD Go.Proofs.Ytijjecnmdhefbaa.BR Go.Proofs.Ytijjecnmdhefbaa.BP
set_option linter.unusedVariables false
set_option linter.unusedSimpArgs false
variable {p : Nat → Prop}
theorem small_calls (g : Nat) (s : St) (w : World) (h : BQ.Rdr p w g s.1 s.2) :
    Calls Try.prog 35 #[.func (.func 36) #[.pointer (some ⟨g, 0, none⟩)] #[]] w fun e w' => e = .returned (.int .i64 (rNext s).1) ∧ BQ.Rdr p w' g (rNext s).2.1 (rNext s).2.2 ∧ w.grownBy w' (some g) := by
  have H := Lib.hid h
  have hl := rNum_lt s h.bytes
  clear h
  have HN0 := BQ.num_calls g s.1 s.2 w H.out
  obtain ⟨⟨m, s'⟩, hq⟩ : ∃ q, rNum (s.1, s.2) = q := ⟨_, rfl⟩
  have hq' : rNum s = (m, s') := hq
  unfold rNext
  rw [hq'] at hl ⊢
  rw [hq] at HN0
  simp only at HN0 hl ⊢
  have HN := Lib.hid HN0
  clear hq hq' HN0
  by_cases hm : m > 4611686018427387904
  · have hd : decide ((4611686018427387904 : Int) < (m : Int)) = true := decide_eq_true (by omega)
    rw [if_pos hm]
    clear hm hl
    go_enter Try.func35, Try.ntmps35
    go_wp2_with fail
    refine HN.out.mono ?_; rintro e w' ⟨rfl, hr, hg⟩
    go_wp2
    go_ret
    exact ⟨rfl, hr, hg⟩
  · have hd : decide ((4611686018427387904 : Int) < (m : Int)) = false := decide_eq_false (by omega)
    have hw : IntKind.i64.wrap (m : Int) = (m : Int) := by rw [IntKind.wrap_i64]; omega
    have hw2 : wrap64 (m : Int) = (m : Int) := by unfold wrap64; omega
    rw [if_neg hm]
    clear hm hl
    go_enter Try.func35, Try.ntmps35
    go_wp2_with fail
    refine HN.out.mono ?_; rintro e w' ⟨rfl, hr, hg⟩
    go_wp2
    go_ret
    exact ⟨rfl, hr, hg⟩
/-- A reader at g, and the cell C that the closure keeps it in. -/
structure Nx (w0 W : World) (C g : Nat) (s : St) : Prop where
  rdr : BQ.Rdr (fun k => w0.heap.size ≤ k ∧ k < g) W g s.1 s.2
  cell : W.heap[C]? = some (.cells #[.pointer (some ⟨g, 0, none⟩)] 65 (0, 0))
  below : Below w0.heap.size w0 W
  g1 : w0.heap.size ≤ g
  g2 : g < C
theorem Nx.lt {w0 W : World} {C g : Nat} {s : St} (h : Nx w0 W C g s) : C < W.heap.size := blk_lt h.cell
theorem Nx.under {w0 W W' : World} {C g : Nat} {s : St} (h : Nx w0 W C g s) (hb : Below W.heap.size W W') : Nx w0 W' C g s := ⟨h.rdr.below hb, blk_below h.cell hb, below_step h.below hb, h.g1, h.g2⟩
theorem Nx.far {w0 W W' : World} {C g : Nat} {s : St} (h : Nx w0 W C g s) {row : Option Nat} (hg : W.grownBy W' row) (hr : ∀ k, row = some k → C < k) : Nx w0 W' C g s := by
  refine ⟨h.rdr.far hg (fun e => ?_) (fun k e => ?_), blk_grown h.cell hg (fun e => ?_), h.below.grown hg h.below.size (fun k e => ?_), h.g1, h.g2⟩
  · have := hr g e.symm; have := h.g2; omega
  · have := hr k e; have := h.g2; omega
  · have := hr C e.symm; omega
  · have := hr k e; have := h.g2; have := h.g1; omega
theorem Nx.step {w0 W W' : World} {C g : Nat} {s s' : St} (h : Nx w0 W C g s) (hr : BQ.Rdr (fun k => w0.heap.size ≤ k ∧ k < g) W' g s'.1 s'.2) (hg : W.grownBy W' (some g)) : Nx w0 W' C g s' :=
  ⟨hr, blk_grown h.cell hg (fun e => by have := h.g2; injection e with e; omega), belowg h.below hg h.below.size h.g1, h.g1, h.g2⟩
theorem nextGet_calls (w0 : World) (C g : Nat) (s : St) (w : World) (h : Nx w0 w C g s) :
    Calls Try.prog 34 #[.pointer (some ⟨C, 0, none⟩)] w fun e w' => e = .returned (.int .i64 (rNext s).1) ∧ Nx w0 w' C g (rNext s).2 ∧ w.grownBy w' (some g) := by
  have H := Lib.hid h
  have h0 := blk_cell h.cell 0
  simp only [List.getElem?_toArray, List.getElem?_cons_succ, List.getElem?_cons_zero] at h0
  clear h
  go_enter Try.func34, Try.ntmps34
  go_wp2_with fail
  refine (small_calls g s _ H.out.rdr).mono ?_; rintro e w' ⟨rfl, hr, hg⟩; have HR := Lib.hid hr; have HG := Lib.hid hg; clear hr hg
  go_wp2
  go_ret
  exact ⟨rfl, H.out.step HR.out HG.out, HG.out⟩
theorem nextGetRoot_calls (w0 : World) (C g : Nat) (s : St) (w : World) (h : Nx w0 w C g s) :
    Calls Try.prog 45 #[.pointer (some ⟨C, 0, none⟩)] w fun e w' => e = .returned (.int .i64 (rNext s).1) ∧ Nx w0 w' C g (rNext s).2 ∧ w.grownBy w' (some g) := by
  have H := Lib.hid h
  have h0 := blk_cell h.cell 0
  simp only [List.getElem?_toArray, List.getElem?_cons_succ, List.getElem?_cons_zero] at h0
  clear h
  go_enter Try.func45, Try.ntmps45
  go_wp2_with fail
  refine (small_calls g s _ H.out.rdr).mono ?_; rintro e w' ⟨rfl, hr, hg⟩; have HR := Lib.hid hr; have HG := Lib.hid hg; clear hr hg
  go_wp2
  go_ret
  exact ⟨rfl, H.out.step HR.out HG.out, HG.out⟩
end Go.Proofs.Ytijjecnmdhefbaa.RG

namespace Go.Proofs.Ytijjecnmdhefbaa.RG
open Go.RowKit Go.Proofs.YtijjecnmdhefbaaW.PrintWords Go.Proofs.YtijjecnmdhefbaaW.PrintLast Go.Proofs.YtijjecnmdhefbaaW.PrintMore Go.Proofs.Ytijjecnmdhefbaa.CD Go.Proofs.Ytijjecnmdhefbaa.BR Go.Proofs.Ytijjecnmdhefbaa.BP
set_option linter.unusedVariables false
set_option linter.unusedSimpArgs false
theorem within_calls (x a b : Int) (w : World) : Calls Try.prog 27 #[.int .i64 x, .int .i64 a, .int .i64 b] w fun e w' => e = .returned (.bool (decide (a ≤ x ∧ x ≤ b))) ∧ Drawn0 w w' := by
  refine PRegionAgain.region_within.calls x a b _ w ?_
  unfold PRegionAgain.region_within.f
  by_cases h : a ≤ x
  · rw [if_pos h]; simp [h]
  · rw [if_neg h]; simp [h]
theorem equal_calls (A B : Option Addr) (c d : Nat) (l m : List Int) (w : World) (hl : ReadsInt w .u8 A l.length l) (hc : l.length ≤ c) (hm : ReadsInt w .u8 B m.length m) (hd : m.length ≤ d) (hb1 : Bytes l) (hb2 : Bytes m) :
    Calls Try.prog 38 #[.slice A l.length c, .slice B m.length d] w fun e w' => e = .returned (.bool (decide (l = m))) ∧ Drawn0 w w' := by
  refine PRegionAgain.bytes_Equal.calls A c l B d m _ w (Kd.C_of_reads (d := (0 : Int)) (h1 := fun _ => rfl) hl) hc (Kd.C_of_reads (d := (0 : Int)) (h1 := fun _ => rfl) hm) hd ?_
  unfold PRegionAgain.bytes_Equal.f
  by_cases h : l = m
  · rw [h]; simp
  · rw [decide_eq_false h, BS.beq_not (fun e => h (BS.str_inj hb1 hb2 e))]
theorem dirF_err : ∀ (l : List Ent) (was : Int) (k : Int), dirF was l = .error k → k = 2 ∨ k = 6
  | [], _, _, h => by simp [dirF] at h
  | x :: l, was, k, h => by
    unfold dirF at h
    split at h
    · injection h with h; omega
    · split at h
      · injection h with h; omega
      · cases hd : dirF x.1 l with
        | error e => rw [hd] at h; simp only [Except.map] at h; injection h with h; subst h; exact dirF_err l x.1 _ hd
        | ok b => rw [hd] at h; simp [Except.map] at h
theorem dir_err (l : List Ent) (k : Int) (h : dir l = .error k) : k = 2 ∨ k = 6 := by
  unfold dir at h
  cases hd : dirF (-1) l with
  | error e => rw [hd] at h; simp only [Except.map] at h; injection h with h; subst h; exact dirF_err l _ _ hd
  | ok b => rw [hd] at h; simp [Except.map] at h
theorem dirF_bytes : ∀ (l : List Ent) (was : Int) (b : List Int), -1 ≤ was → dirF was l = .ok b → Bytes b
  | [], _, b, _, h => by simp [dirF] at h; subst h; exact Bytes.nil
  | x :: l, was, b, hw, h => by
    unfold dirF at h
    split at h
    · cases h
    · rename_i h1
      split at h
      · cases h
      · rename_i h2
        cases hd : dirF x.1 l with
        | error e => rw [hd] at h; cases h
        | ok c =>
          rw [hd] at h
          injection h with h
          have hm : eMay x = true := by simpa using h1
          unfold eMay at hm
          have hm := of_decide_eq_true hm
          rw [← h]
          refine Bytes.append ?_ (dirF_bytes l x.1 c (by omega) hd)
          unfold nums4 eNums
          simp only [List.flatMap_cons, List.flatMap_nil, List.append_nil]
          exact (num_bytes _ (by omega)).append ((num_bytes _ (by omega)).append ((num_bytes _ (by omega)).append (num_bytes _ (by omega))))
theorem dir_bytes (l : List Ent) (b : List Int) (hl : l.length < 18446744073709551616) (h : dir l = .ok b) : Bytes b := by
  unfold dir at h
  cases hd : dirF (-1) l with
  | error e => rw [hd] at h; cases h
  | ok c => rw [hd] at h; injection h with h; rw [← h]; exact (num_bytes _ hl).append (dirF_bytes l _ _ (by omega) hd)
/-- What a call that answers a row of four whole numbers, or ErrForm, returns. -/
def Got (t : Nat) (o : Option (List Ent)) (w : World) (e : Ending) (w' : World) : Prop :=
  (match o with
    | some l => ∃ v, e = .returned (.tuple #[v, .int .i64 0]) ∧ Kd.R kE t w' w.heap.size (fun _ => True) v l
    | none => e = .returned (.tuple #[.slice none 0 0, .int .i64 4])) ∧ Below w.heap.size w w'
end Go.Proofs.Ytijjecnmdhefbaa.RG

namespace Go.Proofs.Ytijjecnmdhefbaa.RG
open Go.RowKit Go.Proofs.YtijjecnmdhefbaaW.PrintWords Go.Proofs.YtijjecnmdhefbaaW.PrintLast Go.Proofs.YtijjecnmdhefbaaW.PrintMore Go.Proofs.Ytijjecnmdhefbaa.CD Go.Proofs.Ytijjecnmdhefbaa.BR Go.Proofs.Ytijjecnmdhefbaa.BP
set_option linter.unusedVariables false
set_option linter.unusedSimpArgs false
theorem infoE : (Try.prog.info? 49).map (fun i => (i.zero, i.size, i.bytes)) = some (some (.agg #[.int .i64 0, .int .i64 0, .int .i64 0, .int .i64 0]), 4, 32) := by kernel_rfl
set_option maxHeartbeats 4000000 in
set_option maxRecDepth 100000 in
theorem get_region (A : Option Addr) (c : Nat) (X : List Int) (w : World) (hr : ReadsInt w .u8 A X.length X) (hc : X.length ≤ c) (hb : Bytes X) (hs : X.length ≤ 140737488355328) :
    Calls Try.prog 16 #[.slice A X.length c] w fun e w' => Got 49 (getDir X) w e w' := by
  have HR0 := Lib.hid hr
  have HN := Lib.hid (BQ.new_calls A c X w hr hc hb hs)
  have HC := Lib.hid hc
  have HB := Lib.hid hb
  obtain ⟨O, hO⟩ : ∃ O, O = getDir X := ⟨_, rfl⟩
  rw [← hO]
  obtain ⟨G, hG⟩ : ∃ G, G = getD0 X := ⟨_, rfl⟩
  have HO := Lib.hid (show O = fin X G by rw [hO, hG]; rfl)
  obtain ⟨⟨nn, s1⟩, hn⟩ : ∃ q, rNext (X, false) = q := ⟨_, rfl⟩
  have hnr := rNext_range (X, false) hb
  rw [hn] at hnr
  simp only at hnr
  have HG := Lib.hid (show G = getF 1025 nn s1 (-1) [] by rw [hG]; unfold getD0; rw [hn])
  have Hn := Lib.hid hn
  clear hr hc hb hO hG hn
  go_enter Try.func16, Try.ntmps16
  go_wp2_with fail
  refine HN.out.mono ?_; rintro e w1 ⟨g, rfl, hg, hr1, hb1⟩
  have hnx0 : Nx w (w1.alloc (.cells #[.pointer (some ⟨g, 0, none⟩)] 65)) w1.heap.size g (X, false) := ⟨hr1.below (below_alloc (Below.refl _ _) _), blk_new _ _, below_alloc hb1 _, hg, hr1.lt⟩
  have HX0 := Lib.hid hnx0
  clear hg hr1 hb1 hnx0
  go_wp2_with fail
  refine (nextGet_calls w w1.heap.size g (X, false) _ HX0.out).mono ?_
  rw [Hn.out]
  rintro e w2 ⟨rfl, hx2, hg2⟩
  have HX2 := Lib.hid hx2
  clear hx2 hg2
  go_wp2_with fail
  go_loopw [6, 7] (fun lv av W => ∃ (acc : List Ent) (at_ : Int) (s : St), av = .int .i64 at_ ∧ (-1 ≤ at_ ∧ at_ ≤ 1023) ∧ (acc.length : Int) ≤ at_ + 1 ∧ Aside0 (Nx w W w1.heap.size g s) ∧ Aside0 (Kd.R kE 49 W w.heap.size (fun k => w1.heap.size < k) lv acc) ∧ Aside0 (G = getF (1025 - acc.length) nn s at_ acc)) (fun _ av _ => (2000 - intOf av).toNat)
  case atStart => exact ⟨[], -1, s1, rfl, by omega, by simp, ⟨HX2.out⟩, ⟨Kd.R_nil _ _ _ _ _⟩, ⟨HG.out⟩⟩
  case round =>
    obtain ⟨acc, at_, s, rfl, hat, hacc, ⟨hx⟩, ⟨hR⟩, ⟨hG⟩⟩ := hrel
    have HX := Lib.hid hx
    obtain ⟨A6, c6, rfl, hc6, hC6⟩ := Kd.R_reads hR
    have HR := Lib.hid hR
    have HE := Lib.hid (ents_of_C hC6)
    have HGj := Lib.hid hG
    have hl63 : acc.length ≤ 1024 := by omega
    obtain ⟨f, hf⟩ : ∃ f, 1025 - acc.length = f + 1 := ⟨1024 - acc.length, by omega⟩
    have Hf := Lib.hid hf
    clear hx hR hC6 hG hf
    by_cases hgo : 0 < nn ∧ (acc.length : Int) < nn ∧ s.2 = false
    · obtain ⟨g1, g2, g3⟩ := hgo
      have hd1 : decide ((0 : Int) < nn) = true := decide_eq_true g1
      have hd2 : decide ((acc.length : Int) < nn) = true := decide_eq_true g2
      have Hc1 := Lib.hid (show (acc.length : Int) < nn ∧ s.2 = false from ⟨g2, g3⟩)
      have HErr := Lib.hid (BQ.err_calls g s.1 s.2 wr HX.out.rdr)
      rw [g3] at HErr
      have hcc := blk_cell HX.out.cell 0
      simp only [List.getElem?_toArray, List.getElem?_cons_succ, List.getElem?_cons_zero] at hcc
      obtain ⟨⟨by_, sb⟩, hby⟩ : ∃ q, rNext s = q := ⟨_, rfl⟩
      have hbr := rNext_range s HX.out.rdr.bytes
      rw [hby] at hbr
      simp only at hbr
      have Hby := Lib.hid hby
      clear g1 g2 g3 hby
      go_wp2_with fail
      refine HErr.out.mono ?_; rintro e w3 ⟨rfl, ⟨n3, rfl⟩⟩
      clear hcc
      have HX3 := Lib.hid (HX.out.under (pw_below_drewN (Below.refl _ _) n3))
      go_wp2_with fail
      refine (nextGet_calls w w1.heap.size g s _ HX3.out).mono ?_
      rw [Hby.out]
      rintro e w4 ⟨rfl, hx4, hg4⟩
      have HX4 := Lib.hid hx4
      have HG4 := Lib.hid (show wr.grownBy w4 (some g) from gtrans (gdrewN (World.grownBy.refl _ _) n3) hg4)
      clear hx4 hg4
      go_wp2_with fail
      refine (within_calls by_ 0 1024 _).mono ?_; rintro e w5 ⟨rfl, ⟨n5, rfl⟩⟩
      by_cases hbw : 0 ≤ by_ ∧ by_ ≤ 1024
      · have hd3 : decide (0 ≤ by_ ∧ by_ ≤ 1024) = true := decide_eq_true hbw
        have HX5 := Lib.hid (HX4.out.under (pw_below_drewN (Below.refl _ _) n5))
        obtain ⟨⟨hd, sh⟩, hhd⟩ : ∃ q, rNext sb = q := ⟨_, rfl⟩
        obtain ⟨⟨sz, ss⟩, hsz⟩ : ∃ q, rNext sh = q := ⟨_, rfl⟩
        obtain ⟨⟨le, sl⟩, hle⟩ : ∃ q, rNext ss = q := ⟨_, rfl⟩
        have hre : rEntry at_ s = (by_, (at_ + (1 + by_), hd, sz, le), sl) := by unfold rEntry; rw [Hby.out]; simp only; rw [hhd]; simp only; rw [hsz]; simp only; rw [hle]
        have Hre := Lib.hid hre
        have Hhd := Lib.hid hhd
        have Hsz := Lib.hid hsz
        have Hle := Lib.hid hle
        clear hre hhd hsz hle
        go_wp2_with fail
        refine (nextGet_calls w w1.heap.size g sb _ HX5.out).mono ?_
        rw [Hhd.out]
        rintro e w6 ⟨rfl, hx6, hg6⟩
        have HX6 := Lib.hid hx6
        have HG6 := Lib.hid (show wr.grownBy w6 (some g) from gtrans (gdrewN HG4.out n5) hg6)
        clear hx6 hg6
        go_wp2_with fail
        refine (nextGet_calls w w1.heap.size g sh _ HX6.out).mono ?_
        rw [Hsz.out]
        rintro e w7 ⟨rfl, hx7, hg7⟩
        have HX7 := Lib.hid (hx7.under (below_alloc (Below.refl _ _) (.cells #[.int .i64 (at_ + (1 + by_)), .int .i64 hd, .int .i64 sz, .int .i64 0] 49)))
        have HG7 := Lib.hid (show wr.grownBy (w7.alloc (.cells #[.int .i64 (at_ + (1 + by_)), .int .i64 hd, .int .i64 sz, .int .i64 0] 49)) (some g) from gbelow (gtrans HG6.out hg7) (below_alloc (Below.refl _ _) _))
        have HB7 := Lib.hid (blk_new w7 (.cells #[.int .i64 (at_ + (1 + by_)), .int .i64 hd, .int .i64 sz, .int .i64 0] 49))
        have HC7 := Lib.hid hx7.lt
        have HS7 := Lib.hid (show wr.heap.size ≤ w7.heap.size from (gtrans HG6.out hg7).size)
        clear hx7 hg7
        go_wp2_with fail
        refine (nextGet_calls w w1.heap.size g ss _ HX7.out).mono ?_
        rw [Hle.out]
        rintro e w8 ⟨rfl, hx8, hg8⟩
        have hb8 := blk_grown HB7.out hg8 (fun e => by injection e with e; have := HC7.out; have := HX.out.g2; omega)
        have f3 := blk_frozen hb8 3
        have c3 := blk_cell hb8 3
        simp only [List.getElem?_toArray, List.getElem?_cons_succ, List.getElem?_cons_zero] at c3
        have HB9 := Lib.hid (show (w8.setCell ⟨w7.heap.size, 3, none⟩ (.int .i64 le)).heap[w7.heap.size]? = some (.cells #[.int .i64 (at_ + (1 + by_)), .int .i64 hd, .int .i64 sz, .int .i64 le] 49 (0, 0)) from blk_put hb8 3 (.int .i64 le) rfl)
        have HX9 := Lib.hid (hx8.far (gset (World.grownBy.refl w8 (some w7.heap.size)) 3 (.int .i64 le)) (fun k e => by injection e with e; have := HC7.out; omega))
        have HK := Lib.hid (fun k (h1 : w1.heap.size < k) (h2 : k < wr.heap.size) => (Below.heap_setCell w8 ⟨w7.heap.size, 3, none⟩ (.int .i64 le) k (fun e => by have := HG6.out.size; have := (World.grownBy.refl w6 none).size; have e : k = w7.heap.size := e; have h7 : wr.heap.size ≤ w7.heap.size := HS7.out; omega)).trans ((gtrans HG7.out hg8).block k h2 (fun e => by injection e with e; have := HX.out.g2; omega)))
        have z0 := blk_cell HB9.out 0
        have z1 := blk_cell HB9.out 1
        have z2 := blk_cell HB9.out 2
        have z3 := blk_cell HB9.out 3
        simp only [List.getElem?_toArray, List.getElem?_cons_succ, List.getElem?_cons_zero] at z0 z1 z2 z3
        have HSK := Lib.hid (show wr.heap.size ≤ (w8.setCell ⟨w7.heap.size, 3, none⟩ (.int .i64 le)).heap.size from (gset (gtrans HG7.out hg8 : wr.grownBy w8 (some g)) 3 (.int .i64 le) |> fun h => by have := (gtrans HG7.out hg8).size; simpa [World.setCell] using this))
        clear hx8 hg8 hb8
        go_wp2_with fail
        refine (entry_calls (at_ + (1 + by_), hd, sz, le) _).mono ?_; rintro e w9 ⟨rfl, hb9⟩
        have HXa := Lib.hid (HX9.out.under hb9)
        have hb10 := blk_below HB9.out hb9
        have y0 := blk_cell hb10 0
        have y1 := blk_cell hb10 1
        have y2 := blk_cell hb10 2
        have y3 := blk_cell hb10 3
        simp only [List.getElem?_toArray, List.getElem?_cons_succ, List.getElem?_cons_zero] at y0 y1 y2 y3
        have HRa := Lib.hid (Kd.R_step HR.out (fun k h1 h2 => (hb9.block k (Nat.lt_of_lt_of_le h2 HSK.out)).trans (HK.out k h1 h2)))
        clear hb9 hb10 z0 z1 z2 z3 f3 c3
        cases hmay : eMay (at_ + (1 + by_), hd, sz, le) with
        | false =>
          have hfin := Lib.hid (show O = none by rw [HO.out, HGj.out, Hf.out, getF_may _ _ _ _ _ Hc1.out (by rw [Hre.out]; exact hbw) (by rw [Hre.out]; exact hmay)]; rfl)
          clear hmay
          go_wp2
          go_ret2
          rw [hfin.out]
          exact ⟨rfl, HXa.out.below⟩
        | true =>
          have hst := Lib.hid (show G = getF f nn sl (at_ + (1 + by_)) (acc ++ [(at_ + (1 + by_), hd, sz, le)]) by rw [HGj.out, Hf.out, getF_some _ _ _ _ _ Hc1.out (by rw [Hre.out]; exact hbw) (by rw [Hre.out]; exact hmay), Hre.out])
          have hx := hmay
          unfold eMay at hx
          have hx := of_decide_eq_true hx
          clear hmay
          have hok := HRa.out.1
          have Hok := Lib.hid hok
          clear hok
          go_wp2_with (at_builtin; refine Kd.R_append kE (w0 := w) w.heap.size rfl (.tmp 52) (.tmp 54) 33 49 _ 32 rfl Try.underlying33 infoE rfl (by decide) (by decide) (.slice A6 acc.length c6) acc (at_ + (1 + by_), hd, sz, le) [.int .i64 (at_ + (1 + by_)), .int .i64 hd, .int .i64 sz, .int .i64 le] (fun k => w1.heap.size < k) (fun _ => False) rfl rfl (kE_mkM _ _ _ _) (fun _ h => h.elim) ?fresh HRa.out HXa.out.below HXa.out.below.size (by omega) ?_; (case fresh => exact fun k hk => Nat.lt_of_lt_of_le HXa.out.lt hk); intro v1 w10 hR10 hb10 hg10 hat10; have HXb := Lib.hid (HXa.out.far hg10 (fun k hk => Hok.out k hk)); have HRb := Lib.hid hR10; clear hb10 hg10 hat10 hR10)
          go_roundw
          case rel => exact ⟨acc ++ [(at_ + (1 + by_), hd, sz, le)], at_ + (1 + by_), sl, rfl, by omega, by rw [List.length_append]; simp; omega, ⟨HXb.out⟩, ⟨HRb.out⟩, ⟨by rw [hst.out]; congr 1; rw [List.length_append]; have := Hf.out; simp; omega⟩⟩
          case measure => simp [intOf]; omega
      · have hd3 : decide (0 ≤ by_ ∧ by_ ≤ 1024) = false := decide_eq_false hbw
        have hfin := Lib.hid (show O = none by rw [HO.out, HGj.out, Hf.out, getF_by _ _ _ _ _ Hc1.out (by unfold rEntry; rw [Hby.out]; exact hbw)]; rfl)
        clear hbw
        go_wp2
        go_ret2
        rw [hfin.out]
        exact ⟨rfl, pw_below_drewN HX4.out.below _⟩
    · have hway : (¬ 0 < nn) ∨ (0 < nn ∧ ¬ (acc.length : Int) < nn) ∨ (0 < nn ∧ (acc.length : Int) < nn ∧ s.2 = true) := by
        by_cases k1 : 0 < nn
        · by_cases k2 : (acc.length : Int) < nn
          · exact .inr (.inr ⟨k1, k2, by cases hs2 : s.2 with | true => rfl | false => exact absurd ⟨k1, k2, hs2⟩ hgo⟩)
          · exact .inr (.inl ⟨k1, k2⟩)
        · exact .inl k1
      clear hgo
      rcases hway with k1 | ⟨k1, k2⟩ | ⟨k1, k2, k3⟩
      · have hd1 : decide ((0 : Int) < nn) = false := decide_eq_false k1
        have hput := Lib.hid (put_region A6 acc.length c6 acc wr hc6 (by omega) HE.out)
        have hend := Lib.hid (show G = some (acc, s) by rw [HGj.out, Hf.out]; exact getF_end _ _ _ _ _ (fun h => k1 (by omega)))
        cases hdr : dir acc with
        | error k =>
          rw [hdr] at hput
          have hfin := Lib.hid (show O = none by rw [HO.out, hend.out]; exact fin_err _ _ _ _ hdr)
          rcases dir_err acc k hdr with rfl | rfl
          all_goals (
            clear hdr
            go_wp2_with fail
            refine hput.out.mono ?_; rintro e wa ⟨rfl, hba⟩
            have HBa := Lib.hid (below_step HX.out.below hba)
            clear hba
            go_wp2
            go_ret2
            rw [hfin.out]
            exact ⟨rfl, HBa.out⟩)
        | ok b =>
          rw [hdr] at hput
          have hfin := Lib.hid (show O = if b = X ∧ s.2 = false then some acc else none by rw [HO.out, hend.out]; exact fin_ok _ _ _ _ hdr)
          have HBb := Lib.hid (dir_bytes acc b (by omega) hdr)
          clear hdr
          go_wp2_with fail
          refine hput.out.mono ?_; rintro e wa ⟨⟨v, rfl, ho⟩, hba⟩
          obtain ⟨Ab, cb, rfl, hcb, hrb⟩ := ho.slice
          have HXa := Lib.hid (HX.out.under hba)
          have HRa := Lib.hid (Kd.R_below HR.out hba)
          have Hrb := Lib.hid hrb
          have Hcb := Lib.hid hcb
          have HErr := Lib.hid (BQ.err_calls g s.1 s.2 _ HXa.out.rdr)
          have hcc := blk_cell HXa.out.cell 0
          simp only [List.getElem?_toArray, List.getElem?_cons_succ, List.getElem?_cons_zero] at hcc
          clear hba ho hrb hcb
          cases hs2 : s.2 with
          | true =>
            have hfin2 := Lib.hid (show O = none by rw [hfin.out, hs2]; simp)
            rw [hs2] at HErr
            clear hs2
            go_wp2_with fail
            refine HErr.out.mono ?_; rintro e wb ⟨rfl, ⟨nb, rfl⟩⟩
            clear hcc
            go_wp2
            go_ret2
            rw [hfin2.out]
            exact ⟨rfl, pw_below_drewN HXa.out.below _⟩
          | false =>
            rw [hs2] at HErr
            have hfin2 := Lib.hid (show O = if b = X then some acc else none by rw [hfin.out, hs2]; simp)
            clear hs2
            go_wp2_with fail
            refine HErr.out.mono ?_; rintro e wb ⟨rfl, ⟨nb, rfl⟩⟩
            clear hcc
            go_wp2_with fail
            refine (equal_calls Ab A cb c b X _ (Hrb.out.below (pw_below_drewN (Below.refl _ _) _)) Hcb.out (HR0.out.below (pw_below_drewN HXa.out.below _)) HC.out HBb.out HB.out).mono ?_; rintro e wc ⟨rfl, ⟨nc, rfl⟩⟩
            by_cases hbx : b = X
            · have hd9 : decide (b = X) = true := decide_eq_true hbx
              have hfin3 := Lib.hid (show O = some acc by rw [hfin2.out, if_pos hbx])
              clear hbx
              go_wp2
              go_ret2
              rw [hfin3.out]
              exact ⟨⟨_, rfl, Kd.R_mono (Kd.R_below HRa.out (pw_below_drewN (Below.refl _ _) _)) (fun _ _ => trivial)⟩, pw_below_drewN HXa.out.below _⟩
            · have hd9 : decide (b = X) = false := decide_eq_false hbx
              have hfin3 := Lib.hid (show O = none by rw [hfin2.out, if_neg hbx])
              clear hbx
              go_wp2
              go_ret2
              rw [hfin3.out]
              exact ⟨rfl, pw_below_drewN HXa.out.below _⟩
      · have hd1 : decide ((0 : Int) < nn) = true := decide_eq_true k1
        have hd2 : decide ((acc.length : Int) < nn) = false := decide_eq_false k2
        have hput := Lib.hid (put_region A6 acc.length c6 acc wr hc6 (by omega) HE.out)
        have hend := Lib.hid (show G = some (acc, s) by rw [HGj.out, Hf.out]; exact getF_end _ _ _ _ _ (fun h => k2 h.1))
        cases hdr : dir acc with
        | error k =>
          rw [hdr] at hput
          have hfin := Lib.hid (show O = none by rw [HO.out, hend.out]; exact fin_err _ _ _ _ hdr)
          rcases dir_err acc k hdr with rfl | rfl
          all_goals (
            clear hdr
            go_wp2_with fail
            refine hput.out.mono ?_; rintro e wa ⟨rfl, hba⟩
            have HBa := Lib.hid (below_step HX.out.below hba)
            clear hba
            go_wp2
            go_ret2
            rw [hfin.out]
            exact ⟨rfl, HBa.out⟩)
        | ok b =>
          rw [hdr] at hput
          have hfin := Lib.hid (show O = if b = X ∧ s.2 = false then some acc else none by rw [HO.out, hend.out]; exact fin_ok _ _ _ _ hdr)
          have HBb := Lib.hid (dir_bytes acc b (by omega) hdr)
          clear hdr
          go_wp2_with fail
          refine hput.out.mono ?_; rintro e wa ⟨⟨v, rfl, ho⟩, hba⟩
          obtain ⟨Ab, cb, rfl, hcb, hrb⟩ := ho.slice
          have HXa := Lib.hid (HX.out.under hba)
          have HRa := Lib.hid (Kd.R_below HR.out hba)
          have Hrb := Lib.hid hrb
          have Hcb := Lib.hid hcb
          have HErr := Lib.hid (BQ.err_calls g s.1 s.2 _ HXa.out.rdr)
          have hcc := blk_cell HXa.out.cell 0
          simp only [List.getElem?_toArray, List.getElem?_cons_succ, List.getElem?_cons_zero] at hcc
          clear hba ho hrb hcb
          cases hs2 : s.2 with
          | true =>
            have hfin2 := Lib.hid (show O = none by rw [hfin.out, hs2]; simp)
            rw [hs2] at HErr
            clear hs2
            go_wp2_with fail
            refine HErr.out.mono ?_; rintro e wb ⟨rfl, ⟨nb, rfl⟩⟩
            clear hcc
            go_wp2
            go_ret2
            rw [hfin2.out]
            exact ⟨rfl, pw_below_drewN HXa.out.below _⟩
          | false =>
            rw [hs2] at HErr
            have hfin2 := Lib.hid (show O = if b = X then some acc else none by rw [hfin.out, hs2]; simp)
            clear hs2
            go_wp2_with fail
            refine HErr.out.mono ?_; rintro e wb ⟨rfl, ⟨nb, rfl⟩⟩
            clear hcc
            go_wp2_with fail
            refine (equal_calls Ab A cb c b X _ (Hrb.out.below (pw_below_drewN (Below.refl _ _) _)) Hcb.out (HR0.out.below (pw_below_drewN HXa.out.below _)) HC.out HBb.out HB.out).mono ?_; rintro e wc ⟨rfl, ⟨nc, rfl⟩⟩
            by_cases hbx : b = X
            · have hd9 : decide (b = X) = true := decide_eq_true hbx
              have hfin3 := Lib.hid (show O = some acc by rw [hfin2.out, if_pos hbx])
              clear hbx
              go_wp2
              go_ret2
              rw [hfin3.out]
              exact ⟨⟨_, rfl, Kd.R_mono (Kd.R_below HRa.out (pw_below_drewN (Below.refl _ _) _)) (fun _ _ => trivial)⟩, pw_below_drewN HXa.out.below _⟩
            · have hd9 : decide (b = X) = false := decide_eq_false hbx
              have hfin3 := Lib.hid (show O = none by rw [hfin2.out, if_neg hbx])
              clear hbx
              go_wp2
              go_ret2
              rw [hfin3.out]
              exact ⟨rfl, pw_below_drewN HXa.out.below _⟩
      · have hd1 : decide ((0 : Int) < nn) = true := decide_eq_true k1
        have hd2 : decide ((acc.length : Int) < nn) = true := decide_eq_true k2
        have HErr0 := Lib.hid (BQ.err_calls g s.1 s.2 wr HX.out.rdr)
        rw [k3] at HErr0
        have hcc0 := blk_cell HX.out.cell 0
        simp only [List.getElem?_toArray, List.getElem?_cons_succ, List.getElem?_cons_zero] at hcc0
        have K3 := Lib.hid k3
        clear k3
        go_wp2_with fail
        refine HErr0.out.mono ?_; rintro e w3 ⟨rfl, ⟨n3, rfl⟩⟩
        clear hcc0
        have HX3 := Lib.hid (HX.out.under (pw_below_drewN (Below.refl _ _) n3))
        have HR3 := Lib.hid (Kd.R_below HR.out (pw_below_drewN (Below.refl _ _) n3))
        have HE3 := Lib.hid (HE.out.below (pw_below_drewN (Below.refl _ _) n3))
        have hput := Lib.hid (put_region A6 acc.length c6 acc (wr.drewN n3) hc6 (by omega) HE3.out)
        have hend := Lib.hid (show G = some (acc, s) by rw [HGj.out, Hf.out]; exact getF_end _ _ _ _ _ (fun h => by rw [K3.out] at h; exact absurd h.2 (by simp)))
        cases hdr : dir acc with
        | error k =>
          rw [hdr] at hput
          have hfin := Lib.hid (show O = none by rw [HO.out, hend.out]; exact fin_err _ _ _ _ hdr)
          rcases dir_err acc k hdr with rfl | rfl
          all_goals (
            clear hdr
            go_wp2_with fail
            refine hput.out.mono ?_; rintro e wa ⟨rfl, hba⟩
            have HBa := Lib.hid (below_step HX3.out.below hba)
            clear hba
            go_wp2
            go_ret2
            rw [hfin.out]
            exact ⟨rfl, HBa.out⟩)
        | ok b =>
          rw [hdr] at hput
          have hfin := Lib.hid (show O = if b = X ∧ s.2 = false then some acc else none by rw [HO.out, hend.out]; exact fin_ok _ _ _ _ hdr)
          have HBb := Lib.hid (dir_bytes acc b (by omega) hdr)
          clear hdr
          go_wp2_with fail
          refine hput.out.mono ?_; rintro e wa ⟨⟨v, rfl, ho⟩, hba⟩
          obtain ⟨Ab, cb, rfl, hcb, hrb⟩ := ho.slice
          have HXa := Lib.hid (HX3.out.under hba)
          have HRa := Lib.hid (Kd.R_below HR3.out hba)
          have Hrb := Lib.hid hrb
          have Hcb := Lib.hid hcb
          have HErr := Lib.hid (BQ.err_calls g s.1 s.2 _ HXa.out.rdr)
          have hcc := blk_cell HXa.out.cell 0
          simp only [List.getElem?_toArray, List.getElem?_cons_succ, List.getElem?_cons_zero] at hcc
          clear hba ho hrb hcb
          cases hs2 : s.2 with
          | true =>
            have hfin2 := Lib.hid (show O = none by rw [hfin.out, hs2]; simp)
            rw [hs2] at HErr
            clear hs2
            go_wp2_with fail
            refine HErr.out.mono ?_; rintro e wb ⟨rfl, ⟨nb, rfl⟩⟩
            clear hcc
            go_wp2
            go_ret2
            rw [hfin2.out]
            exact ⟨rfl, pw_below_drewN HXa.out.below _⟩
          | false =>
            rw [hs2] at HErr
            have hfin2 := Lib.hid (show O = if b = X then some acc else none by rw [hfin.out, hs2]; simp)
            clear hs2
            go_wp2_with fail
            refine HErr.out.mono ?_; rintro e wb ⟨rfl, ⟨nb, rfl⟩⟩
            clear hcc
            go_wp2_with fail
            refine (equal_calls Ab A cb c b X _ (Hrb.out.below (pw_below_drewN (Below.refl _ _) _)) Hcb.out (HR0.out.below (pw_below_drewN HXa.out.below _)) HC.out HBb.out HB.out).mono ?_; rintro e wc ⟨rfl, ⟨nc, rfl⟩⟩
            by_cases hbx : b = X
            · have hd9 : decide (b = X) = true := decide_eq_true hbx
              have hfin3 := Lib.hid (show O = some acc by rw [hfin2.out, if_pos hbx])
              clear hbx
              go_wp2
              go_ret2
              rw [hfin3.out]
              exact ⟨⟨_, rfl, Kd.R_mono (Kd.R_below HRa.out (pw_below_drewN (Below.refl _ _) _)) (fun _ _ => trivial)⟩, pw_below_drewN HXa.out.below _⟩
            · have hd9 : decide (b = X) = false := decide_eq_false hbx
              have hfin3 := Lib.hid (show O = none by rw [hfin2.out, if_neg hbx])
              clear hbx
              go_wp2
              go_ret2
              rw [hfin3.out]
              exact ⟨rfl, pw_below_drewN HXa.out.below _⟩
end Go.Proofs.Ytijjecnmdhefbaa.RG

namespace Go.Proofs.Ytijjecnmdhefbaa.RG
open Go.RowKit Go.Proofs.Ytijjecnmdhefbaa.CD Go.Proofs.Ytijjecnmdhefbaa.BR
set_option linter.unusedVariables false
set_option linter.unusedSimpArgs false
def rMay (x : Ent) : Bool := decide ((-4096 ≤ x.1 ∧ x.1 ≤ 4095) ∧ (-4096 ≤ x.2.1 ∧ x.2.1 ≤ 4095) ∧ (1 ≤ x.2.2.1 ∧ x.2.2.1 ≤ 131071) ∧ 1 ≤ x.2.2.2 ∧ x.2.2.2 ≤ 65536)
def rNums (x : Ent) : List Int := num (zig x.1) ++ (num (zig x.2.1) ++ (num x.2.2.1.toNat ++ num x.2.2.2.toNat))
def late : Option Ent → Ent → Bool
  | none, _ => false
  | some y, x => decide (x.1 < y.1 ∨ x.1 = y.1 ∧ x.2.1 ≤ y.2.1)
def rootF : Option Ent → List Ent → Except Int (List Int)
  | _, [] => .ok []
  | was, x :: l => if rMay x = false then .error 2 else if late was x = true then .error 6 else (rootF (some x) l).map (rNums x ++ ·)
def root (l : List Ent) : Except Int (List Int) := (rootF none l).map (num l.length ++ ·)
theorem rootF_step (was : Option Ent) (x : Ent) (l : List Ent) (h1 : rMay x = true) (h2 : late was x = false) : rootF was (x :: l) = glue (rNums x) (rootF (some x) l) := by
  simp only [rootF]
  rw [h1, h2, if_neg (by simp), if_neg (by simp)]; rfl
theorem rootF_may (was : Option Ent) (x : Ent) (l : List Ent) (h1 : rMay x = false) : rootF was (x :: l) = .error 2 := by simp [rootF, h1]
theorem rootF_late (was : Option Ent) (x : Ent) (l : List Ent) (h1 : rMay x = true) (h2 : late was x = true) : rootF was (x :: l) = .error 6 := by simp [rootF, h1, h2]
theorem rNums_le (x : Ent) : (rNums x).length ≤ 40 := by
  unfold rNums
  simp only [List.length_append]
  have h1 := num_le (zig x.1)
  have h2 := num_le (zig x.2.1)
  have h3 := num_le x.2.2.1.toNat
  have h4 := num_le x.2.2.2.toNat
  omega
theorem rMay_of {x : Ent} (h : rMay x = true) : (-4096 ≤ x.1 ∧ x.1 ≤ 4095) ∧ (-4096 ≤ x.2.1 ∧ x.2.1 ≤ 4095) ∧ (1 ≤ x.2.2.1 ∧ x.2.2.1 ≤ 131071) ∧ 1 ≤ x.2.2.2 ∧ x.2.2.2 ≤ 65536 := of_decide_eq_true h
theorem rNums_bytes (x : Ent) (h : rMay x = true) : Bytes (rNums x) := by
  have h := rMay_of h
  unfold rNums
  exact (num_bytes _ (zig_lt _ (by omega))).append ((num_bytes _ (zig_lt _ (by omega))).append ((num_bytes _ (by omega)).append (num_bytes _ (by omega))))
theorem rootF_err : ∀ (l : List Ent) (was : Option Ent) (k : Int), rootF was l = .error k → k = 2 ∨ k = 6
  | [], _, _, h => by simp [rootF] at h
  | x :: l, was, k, h => by
    cases h1 : rMay x with
    | false => rw [rootF_may _ _ _ h1] at h; injection h with h; omega
    | true =>
      cases h2 : late was x with
      | true => rw [rootF_late _ _ _ h1 h2] at h; injection h with h; omega
      | false =>
        rw [rootF_step _ _ _ h1 h2] at h
        cases hd : rootF (some x) l with
        | error e => rw [hd] at h; simp only [glue, Except.map] at h; injection h with h; subst h; exact rootF_err l _ _ hd
        | ok b => rw [hd] at h; simp [glue, Except.map] at h
theorem root_err (l : List Ent) (k : Int) (h : root l = .error k) : k = 2 ∨ k = 6 := by
  unfold root at h
  cases hd : rootF none l with
  | error e => rw [hd] at h; simp only [Except.map] at h; injection h with h; subst h; exact rootF_err l _ _ hd
  | ok b => rw [hd] at h; simp [Except.map] at h
theorem rootF_bytes : ∀ (l : List Ent) (was : Option Ent) (b : List Int), rootF was l = .ok b → Bytes b
  | [], _, b, h => by simp [rootF] at h; subst h; exact Bytes.nil
  | x :: l, was, b, h => by
    cases h1 : rMay x with
    | false => rw [rootF_may _ _ _ h1] at h; cases h
    | true =>
      cases h2 : late was x with
      | true => rw [rootF_late _ _ _ h1 h2] at h; cases h
      | false =>
        rw [rootF_step _ _ _ h1 h2] at h
        cases hd : rootF (some x) l with
        | error e => rw [hd] at h; cases h
        | ok c =>
          rw [hd] at h
          injection h with h
          rw [← h]
          exact (rNums_bytes x h1).append (rootF_bytes l _ c hd)
theorem root_bytes (l : List Ent) (b : List Int) (hl : l.length < 18446744073709551616) (h : root l = .ok b) : Bytes b := by
  unfold root at h
  cases hd : rootF none l with
  | error e => rw [hd] at h; cases h
  | ok c => rw [hd] at h; injection h with h; rw [← h]; exact (num_bytes _ hl).append (rootF_bytes l _ _ hd)
/-- A whole number that is read. -/
def rInt' (s : St) : Int × St := (zag (rNum s).1, (rNum s).2)
/-- One region more. -/
def rRegion (s : St) : Ent × St :=
  (((rInt' s).1, (rInt' (rInt' s).2).1, (rNext (rInt' (rInt' s).2).2).1, (rNext (rNext (rInt' (rInt' s).2).2).2).1), (rNext (rNext (rInt' (rInt' s).2).2).2).2)
def getRF : Nat → Int → St → List Ent → Option (List Ent × St)
  | 0, _, _, _ => none
  | f + 1, n, s, acc =>
    if (acc.length : Int) < n ∧ s.2 = false then
      if rMay (rRegion s).1 = true then getRF f n (rRegion s).2 (acc ++ [(rRegion s).1]) else none
    else some (acc, s)
theorem getRF_some (f : Nat) (n : Int) (s : St) (acc : List Ent) (h1 : (acc.length : Int) < n ∧ s.2 = false) (h3 : rMay (rRegion s).1 = true) : getRF (f + 1) n s acc = getRF f n (rRegion s).2 (acc ++ [(rRegion s).1]) := by
  rw [getRF, if_pos h1, if_pos h3]
theorem getRF_may (f : Nat) (n : Int) (s : St) (acc : List Ent) (h1 : (acc.length : Int) < n ∧ s.2 = false) (h3 : rMay (rRegion s).1 = false) : getRF (f + 1) n s acc = none := by
  rw [getRF, if_pos h1, h3]; rfl
theorem getRF_end (f : Nat) (n : Int) (s : St) (acc : List Ent) (h1 : ¬ ((acc.length : Int) < n ∧ s.2 = false)) : getRF (f + 1) n s acc = some (acc, s) := by
  rw [getRF, if_neg h1]
def getR0 (X : List Int) : Option (List Ent × St) := getRF (X.length + 2) (rNext (X, false)).1 (rNext (X, false)).2 []
def finR (X : List Int) : Option (List Ent × St) → Option (List Ent)
  | none => none
  | some (l, s) =>
    match root l with
    | .ok b => if b = X ∧ s.2 = false then some l else none
    | .error _ => none
/-- The root that bytes are. -/
def getRoot (X : List Int) : Option (List Ent) := finR X (getR0 X)
theorem finR_err (X : List Int) (l : List Ent) (s : St) (k : Int) (h : root l = .error k) : finR X (some (l, s)) = none := by simp only [finR]; rw [h]
theorem finR_ok (X : List Int) (l : List Ent) (s : St) (b : List Int) (h : root l = .ok b) : finR X (some (l, s)) = if b = X ∧ s.2 = false then some l else none := by simp only [finR]; rw [h]
theorem rNum_ok (s : St) (hb : Bytes s.1) (h : (rNum s).2.2 = false) : (rNum s).2.1.length + 1 ≤ s.1.length ∧ s.2 = false := by
  unfold rNum at h ⊢
  cases hs : s.2 with
  | true => simp [hs] at h
  | false =>
    simp only [hs, Bool.false_eq_true, if_false] at h ⊢
    by_cases hk : (dec s.1).2 = 0
    · rw [if_pos hk] at h; simp at h
    · rw [if_neg hk]
      have h2 := dec_back s.1 hb (dec s.1).1 (dec s.1).2 rfl hk
      refine ⟨?_, trivial⟩
      show (s.1.drop (dec s.1).2).length + 1 ≤ s.1.length
      rw [List.length_drop]
      obtain ⟨_, _, _, h4, h5, _⟩ := h2
      omega
theorem rNum_pos (s : St) (h : (rNum s).1 ≠ 0) : (rNum s).2.2 = false := by
  unfold rNum at h ⊢
  cases hs : s.2 with
  | true => simp [hs] at h
  | false =>
    simp only [hs, Bool.false_eq_true, if_false] at h ⊢
    by_cases hk : (dec s.1).2 = 0
    · rw [if_pos hk] at h; simp at h
    · rw [if_neg hk]
theorem rNext_pos (s : St) (h : 1 ≤ (rNext s).1) : (rNext s).2.2 = false := by
  unfold rNext at h ⊢
  simp only at h ⊢
  exact rNum_pos s (fun e => by rw [e] at h; simp at h)
theorem rRegion_less (s : St) (hb : Bytes s.1) (h : rMay (rRegion s).1 = true) : (rRegion s).2.2 = false ∧ (rRegion s).2.1.length + 4 ≤ s.1.length := by
  have h := rMay_of h
  unfold rRegion at h ⊢
  simp only at h ⊢
  have b1 : Bytes (rInt' s).2.1 := rNum_bytes s hb
  have b2 : Bytes (rInt' (rInt' s).2).2.1 := rNum_bytes _ b1
  have b3 : Bytes (rNext (rInt' (rInt' s).2).2).2.1 := rNext_bytes _ b2
  have h4 := rNext_pos _ h.2.2.2.1
  have k4 := rNum_ok _ b3 h4
  have k3 := rNum_ok _ b2 k4.2
  have k2 := rNum_ok _ b1 k3.2
  have k1 := rNum_ok _ hb k2.2
  refine ⟨h4, ?_⟩
  have e4 := k4.1
  have e3 := k3.1
  have e2 := k2.1
  have e1 := k1.1
  show (rNum (rNum (rNum (rNum s).2).2).2).2.1.length + 4 ≤ s.1.length
  have q4 : (rNum (rNum (rNum (rNum s).2).2).2).2.1.length + 1 ≤ (rNum (rNum (rNum s).2).2).2.1.length := e4
  have q3 : (rNum (rNum (rNum s).2).2).2.1.length + 1 ≤ (rNum (rNum s).2).2.1.length := e3
  have q2 : (rNum (rNum s).2).2.1.length + 1 ≤ (rNum s).2.1.length := e2
  omega
theorem rRegion_bytes (s : St) (hb : Bytes s.1) : Bytes (rRegion s).2.1 := rNext_bytes _ (rNext_bytes _ (rNum_bytes _ (rNum_bytes s hb)))
theorem getRF_len : ∀ (f : Nat) (n : Int) (s : St) (acc l : List Ent) (s' : St), getRF f n s acc = some (l, s') → l.length ≤ acc.length + f
  | 0, _, _, _, _, _, h => by simp [getRF] at h
  | f + 1, n, s, acc, l, s', h => by
    rw [getRF] at h
    split at h
    · split at h
      · have := getRF_len f n _ _ l s' h
        rw [List.length_append] at this
        simp at this
        omega
      · cases h
    · simp only [Option.some.injEq, Prod.mk.injEq] at h
      rw [← h.1]; omega
theorem getRoot_len (X : List Int) (l : List Ent) (h : getRoot X = some l) : l.length ≤ X.length + 2 := by
  unfold getRoot at h
  cases hg : getR0 X with
  | none => rw [hg] at h; cases h
  | some q =>
    obtain ⟨l', s⟩ := q
    rw [hg] at h
    have h2 := getRF_len _ _ _ _ _ _ hg
    cases hd : root l' with
    | error k => rw [finR_err _ _ _ _ hd] at h; cases h
    | ok b =>
      rw [finR_ok _ _ _ _ hd] at h
      split at h
      · injection h with h; rw [← h]; simpa using h2
      · cases h
end Go.Proofs.Ytijjecnmdhefbaa.RG

namespace Go.Proofs.Ytijjecnmdhefbaa.RG
open Go.RowKit Go.Proofs.YtijjecnmdhefbaaW.PrintWords Go.Proofs.YtijjecnmdhefbaaW.PrintLast Go.Proofs.YtijjecnmdhefbaaW.PrintMore Go.Proofs.Ytijjecnmdhefbaa.CD Go.Proofs.Ytijjecnmdhefbaa.BR Go.Proofs.Ytijjecnmdhefbaa.BP
set_option linter.unusedVariables false
set_option linter.unusedSimpArgs false
def told : Except Int (List Int) → List Int × Int
  | .ok b => (b, 0)
  | .error e => ([], e)
theorem told_err (b : List Int) (e : Int) : told (glue b (.error e)) = ([], e) := rfl
theorem w_pred (i : Nat) (h : 0 < i ∧ i ≤ 1000000) : wrap64 ((i : Int) - 1) = ((i - 1 : Nat) : Int) := by unfold wrap64; omega
theorem w_succ (i : Nat) (h : i ≤ 1000000) : wrap64 ((i : Int) + 1) = ((i + 1 : Nat) : Int) := by unfold wrap64; omega
theorem w_by (a b : Int) (ha : 0 ≤ a ∧ a ≤ 100000) (hb : -1 ≤ b ∧ b ≤ 100000) : wrap64 (wrap64 (a - b) - 1) = a - b - 1 := by
  have e : wrap64 (a - b) = a - b := by unfold wrap64; omega
  rw [e]; clear e; unfold wrap64; omega
end Go.Proofs.Ytijjecnmdhefbaa.RG

namespace Go.Proofs.Ytijjecnmdhefbaa.BP
open Go.RowKit Go.Proofs.YtijjecnmdhefbaaW.PrintWords Go.Proofs.YtijjecnmdhefbaaW.PrintLast Go.Proofs.YtijjecnmdhefbaaW.PrintMore Go.Proofs.Ytijjecnmdhefbaa.CD Go.Proofs.Ytijjecnmdhefbaa.BR
set_option linter.unusedVariables false
set_option linter.unusedSimpArgs false
/-- The world behind []byte(t). -/
abbrev bw (W : World) (t : ByteArray) : World := Lib.bytesWorld W 5 t
theorem bytes_run (t : ByteArray) (W : World) : (convert 9 34 (.string t)).run Try.prog W = .ok (.slice (some ⟨W.heap.size, 0, none⟩) t.size (grownCap W t.size 0 5)) (bw W t) := print_bytes (P := Try.prog) 9 34 5 Try.underlying9 Try.underlying34 Try.underlying5 t W
theorem bw_below (W : World) (t : ByteArray) : Below W.heap.size W (bw W t) := bytes_below (Below.refl _ _) (Nat.le_refl _) 5 t
theorem bw_reads (W : World) (t : ByteArray) (ht : t.size ≤ 9223372036854775807) : ReadsInt (bw W t) .u8 (some ⟨W.heap.size, 0, none⟩) (bytesOf t).length (bytesOf t) := by
  rw [bytesOf_length]; exact bytes_reads W 5 t ht
/-- A reader of a string's bytes. -/
theorem newstr_calls (t : ByteArray) (W : World) (ht : t.size ≤ 140737488355328) :
    Calls Try.prog 33 #[.slice (some ⟨W.heap.size, 0, none⟩) t.size (grownCap W t.size 0 5)] (bw W t) fun e w' => ∃ g, e = .returned (.pointer (some ⟨g, 0, none⟩)) ∧ W.heap.size ≤ g ∧ Rdr w' g (bytesOf t) false ∧ Below W.heap.size W w' := by
  have h := new_calls (some ⟨W.heap.size, 0, none⟩) (grownCap W t.size 0 5) (bytesOf t) (bw W t) (bw_reads W t (by omega)) (by rw [bytesOf_length]; exact grownCap_ge _ _ _ _) (BS.bytes_bytesOf t) (by rw [bytesOf_length]; exact ht)
  rw [bytesOf_length] at h
  refine h.mono ?_
  rintro e w' ⟨g, rfl, hg, hr, hb⟩
  exact ⟨g, rfl, Nat.le_trans (bw_below W t).size hg, hr, below_step (bw_below W t) hb⟩
theorem xorA (a : Nat) (ha : a < 18446744073709551616) : bits .xor .u64 (a : Int) 0 = (a : Int) := by
  have ha' : a % 2 ^ IntKind.u64.bits = a := Nat.mod_eq_of_lt (by simp only [IntKind.bits]; omega)
  simp only [bits, BitVec.ofInt_natCast, show BitVec.ofInt IntKind.u64.bits 0 = 0#_ from rfl, BitVec.xor_zero, BitVec.toNat_ofNat, ha']
  exact CF.wu64_id _ (by omega) (by omega)
theorem xorB (a : Nat) (ha : a < 18446744073709551616) : bits .xor .u64 (a : Int) 18446744073709551615 = 18446744073709551615 - (a : Int) := by
  have ha' : a % 2 ^ 64 = a := Nat.mod_eq_of_lt (by omega)
  have h1 : BitVec.ofInt 64 18446744073709551615 = BitVec.allOnes 64 := by decide
  show IntKind.u64.wrap ((BitVec.ofInt 64 (a : Int) ^^^ BitVec.ofInt 64 18446744073709551615).toNat : Int) = _
  rw [h1, BitVec.ofInt_natCast, BitVec.xor_allOnes, BitVec.toNat_not, BitVec.toNat_ofNat, ha']
  have : IntKind.u64.wrap ((2 ^ 64 - 1 - a : Nat) : Int) = ((2 ^ 64 - 1 - a : Nat) : Int) := CF.wu64_id _ (by omega) (by omega)
  rw [this]
  omega
theorem zig_eq (i : Int) (h : -9223372036854775808 ≤ i ∧ i < 9223372036854775808) : Go.bits .xor .u64 (IntKind.u64.wrap ((IntKind.u64.wrap i) * 2)) (IntKind.u64.wrap (i / 9223372036854775808)) = (zig i : Int) := by
  unfold zig
  by_cases h0 : 0 ≤ i
  · rw [if_pos h0]
    have e1 : IntKind.u64.wrap ((IntKind.u64.wrap i) * 2) = (((2 * i).toNat : Nat) : Int) := by rw [CF.wu64, CF.wu64]; omega
    have e2 : IntKind.u64.wrap (i / 9223372036854775808) = 0 := by rw [CF.wu64]; omega
    rw [e1, e2, xorA _ (by omega)]
  · rw [if_neg h0]
    have e1 : IntKind.u64.wrap ((IntKind.u64.wrap i) * 2) = (((18446744073709551616 + 2 * i).toNat : Nat) : Int) := by rw [CF.wu64, CF.wu64]; omega
    have e2 : IntKind.u64.wrap (i / 9223372036854775808) = 18446744073709551615 := by rw [CF.wu64]; omega
    rw [e1, e2, xorB _ (by omega)]
    omega
theorem putInt_calls (A : Option Addr) (c : Nat) (l : List Int) (i : Int) (w : World) (hr : ReadsInt w .u8 A l.length l) (hc : l.length ≤ c) (hi : -9223372036854775808 ≤ i ∧ i < 9223372036854775808) (hl : l.length < 140737488355000) :
    Calls Try.prog 42 #[.slice A l.length c, .int .i64 i] w fun e w' => ∃ v, e = .returned v ∧ OB w' w.heap.size v (l ++ num (zig i)) ∧ Below w.heap.size w w' := by
  have hf : PRegionAgain.bytes_PutInt.f 12 l i = some (l ++ num (zig i)) := by
    unfold PRegionAgain.bytes_PutInt.f
    rw [zig_eq i hi]
    have h2 : PRegionAgain.bytes_Put.f 12 l (zig i : Int) = some (l ++ num (zig i)) := CF.put_f (zig i) l (zig_lt i hi) hl
    rw [h2]
    rfl
  exact (PRegionAgain.bytes_PutInt.calls 12 A c l i _ w (Kd.C_of_reads (d := (0 : Int)) (h1 := fun _ => rfl) hr) hc hf).mono fun e w' ⟨v, he, hR, hb⟩ => ⟨v, he, OB.of_R hR, hb⟩
theorem putInt_nil (i : Int) (w : World) (hi : -9223372036854775808 ≤ i ∧ i < 9223372036854775808) :
    Calls Try.prog 42 #[.slice none 0 0, .int .i64 i] w fun e w' => ∃ v, e = .returned v ∧ OB w' w.heap.size v (num (zig i)) ∧ Below w.heap.size w w' :=
  putInt_calls none 0 [] i w ⟨rfl, by decide, fun h => absurd h (by decide)⟩ (Nat.le_refl _) hi (by decide)
end Go.Proofs.Ytijjecnmdhefbaa.BP

namespace Go.Proofs.Ytijjecnmdhefbaa.RG
open Go.RowKit Go.Proofs.YtijjecnmdhefbaaW.PrintWords Go.Proofs.YtijjecnmdhefbaaW.PrintLast Go.Proofs.YtijjecnmdhefbaaW.PrintMore Go.Proofs.Ytijjecnmdhefbaa.CD Go.Proofs.Ytijjecnmdhefbaa.BR Go.Proofs.Ytijjecnmdhefbaa.BP
set_option linter.unusedVariables false
set_option linter.unusedSimpArgs false
abbrev toR (x : Ent) : PRegionAgain.S51 := ⟨x.1, x.2.1, x.2.2.1, x.2.2.2⟩
theorem C_toR {w : World} {A : Option Addr} {n : Nat} {xs : List Ent} (h : Kd.C kE w A n xs) : Kd.C PRegionAgain.k51 w A n (xs.map toR) := by
  refine ⟨by rw [List.length_map]; exact h.1, h.2.1, fun h0 => ?_⟩
  obtain ⟨ad, e, hc⟩ := h.2.2 h0
  refine ⟨ad, e, fun j p hj => ?_⟩
  rw [List.getElem?_map] at hj
  cases hx : xs[j]? with
  | none => rw [hx] at hj; simp at hj
  | some x =>
    rw [hx] at hj
    obtain rfl : toR x = p := by simpa using hj
    exact hc j x hx
theorem rd_toR (xs : List Ent) (i : Nat) (hi : i < xs.length) : PRegionAgain.rd_T51 (xs.map toR) (i : Int) = toR (xs.getD i E0) := by
  unfold PRegionAgain.rd_T51
  rw [Int.toNat_natCast, List.getD_eq_getElem?_getD, List.getElem?_map, List.getD_eq_getElem?_getD, List.getElem?_eq_getElem hi]
  rfl
theorem region_f (x : Ent) : PRegionAgain.region_region.f x.1 x.2.1 x.2.2.1 x.2.2.2 = some (rMay x) := by
  obtain ⟨a, b, c, d⟩ := x
  unfold PRegionAgain.region_region.f PRegionAgain.region_within.f rMay
  by_cases h1 : -4096 ≤ a <;> by_cases h2 : a ≤ 4095 <;> by_cases h3 : -4096 ≤ b <;> by_cases h4 : b ≤ 4095 <;> by_cases h5 : 1 ≤ c <;> by_cases h6 : c ≤ 131071 <;> by_cases h7 : 1 ≤ d <;> simp [h1, h2, h3, h4, h5, h6, h7]
theorem put_fR (z : Int) (l : List Int) (k : Nat) (hz : 0 ≤ z ∧ z < 18446744073709551616) (hl : l.length < 140737488355000) (hk : 12 ≤ k) : PRegionAgain.bytes_Put.f k l (IntKind.u64.wrap z) = some (l ++ num z.toNat) := by
  rw [CF.wu64_id z hz.1 hz.2]
  have e : z = (z.toNat : Int) := by omega
  rw [e]
  unfold PRegionAgain.bytes_Put.f
  simp only [Option.bind_some, List.length_nil, List.nil_append, Int.toNat_natCast]
  rw [if_pos (by omega)]
  have h := CF.put_l0 9 k z.toNat l (by omega) (by omega) (by omega)
  exact h
theorem putInt_fR (i : Int) (l : List Int) (k : Nat) (h : -9223372036854775808 ≤ i ∧ i < 9223372036854775808) (hl : l.length < 140737488355000) (hk : 12 ≤ k) : PRegionAgain.bytes_PutInt.f k l i = some (l ++ num (zig i)) := by
  unfold PRegionAgain.bytes_PutInt.f
  rw [zig_eq i h]
  have hz := zig_lt i h
  have h2 := put_fR (zig i : Int) l k (by omega) hl hk
  rw [CF.wu64_id _ (by omega) (by omega), Int.toNat_natCast] at h2
  rw [h2]
  rfl
theorem putRoot_l0 (xs : List Ent) (hxs : xs.length ≤ 100000) : ∀ (d i k : Nat) (b : List Int) (was : Option Ent) (y : Ent), d = xs.length - i → i ≤ xs.length → (i = 0 → was = none) → (0 < i → was = some y) → b.length + 40 * d < 140737488355000 → 2 * d + 14 ≤ k →
    PRegionAgain.region_PutRoot.l0 k b (xs.map toR) (xs.length : Int) (i : Int) y.1 y.2.1 y.2.2.1 y.2.2.2 = some (told (glue b (rootF was (xs.drop i))))
  | 0, i, k, b, was, y, hd, hi, h0, h1, hb, hk => by
    obtain ⟨k, rfl⟩ : ∃ m, k = m + 1 := ⟨k - 1, by omega⟩
    simp only [PRegionAgain.region_PutRoot.l0]
    rw [if_neg (by omega), List.drop_of_length_le (by omega)]
    simp [rootF, glue, told, Except.map]
  | d + 1, i, k, b, was, y, hd, hi, h0, h1, hb, hk => by
    obtain ⟨k, rfl⟩ : ∃ m, k = m + 2 := ⟨k - 2, by omega⟩
    have hil : i < xs.length := by omega
    have hS : xs.drop i = xs.getD i E0 :: xs.drop (i + 1) := by rw [List.drop_eq_getElem_cons hil, List.getD_eq_getElem?_getD, List.getElem?_eq_getElem hil]; rfl
    rw [hS]
    have hrd := rd_toR xs i hil
    generalize hx : xs.getD i E0 = x at hrd ⊢
    simp only [PRegionAgain.region_PutRoot.l0]
    rw [if_pos (by omega), if_pos (by omega), if_pos (by rw [List.length_map]; omega), hrd]
    simp only [toR]
    rw [region_f x]
    simp only [Option.bind_some]
    cases he : rMay x with
    | false => simp [rootF, he, told, glue, Except.map]
    | true =>
      have hm := rMay_of he
      have hstep : ∀ t : Bool, t = late was x → PRegionAgain.region_PutRoot.j1 (k + 1) b (xs.map toR) (xs.length : Int) (i : Int) t x.1 x.2.1 x.2.2.1 x.2.2.2 = some (told (glue b (rootF was (x :: xs.drop (i + 1))))) := by
        intro t ht
        simp only [PRegionAgain.region_PutRoot.j1]
        cases hl : late was x with
        | true => rw [ht, hl, if_pos rfl, rootF_late _ _ _ he hl]; rfl
        | false =>
          rw [ht, hl, if_neg (by simp), rootF_step _ _ _ he hl, glue_glue]
          have l1 := num_le (zig x.1)
          have l2 := num_le (zig x.2.1)
          have l3 := num_le x.2.2.1.toNat
          rw [putInt_fR x.1 b k (by omega) (by omega) (by omega)]
          simp only [Option.bind_some]
          rw [putInt_fR x.2.1 _ k (by omega) (by rw [List.length_append]; omega) (by omega)]
          simp only [Option.bind_some]
          rw [put_fR x.2.2.1 _ k (by omega) (by rw [List.length_append, List.length_append]; omega) (by omega)]
          simp only [Option.bind_some]
          rw [put_fR x.2.2.2 _ k (by omega) (by rw [List.length_append, List.length_append, List.length_append]; omega) (by omega)]
          simp only [Option.bind_some]
          have e : b ++ num (zig x.1) ++ num (zig x.2.1) ++ num x.2.2.1.toNat ++ num x.2.2.2.toNat = b ++ rNums x := by
            unfold rNums; simp [List.append_assoc]
          have hr := rNums_le x
          rw [w_succ i (by omega), e, putRoot_l0 xs hxs d (i + 1) k _ (some x) x (by omega) (by omega) (by omega) (fun _ => rfl) (by rw [List.length_append]; omega) (by omega)]
      rw [if_pos rfl]
      by_cases hi0 : 0 < i
      · rw [if_pos (by omega)]
        have hw := h1 hi0
        by_cases c1 : x.1 < y.1
        · rw [if_pos c1]
          exact hstep _ (by rw [hw]; unfold late; exact (decide_eq_true (.inl c1)).symm)
        · rw [if_neg c1]
          by_cases c2 : x.1 = y.1
          · rw [if_pos c2]
            exact hstep _ (by rw [hw]; unfold late; exact decide_eq_decide.2 ⟨fun h => .inr ⟨c2, h⟩, fun h => h.elim (fun h => absurd h c1) (fun h => h.2)⟩)
          · rw [if_neg c2]
            exact hstep _ (by rw [hw]; unfold late; exact (decide_eq_false (fun h => h.elim c1 (fun h => c2 h.1))).symm)
      · rw [if_neg (by omega)]
        exact hstep _ (by rw [h0 (by omega)]; rfl)
theorem putRoot_f (xs : List Ent) (hxs : xs.length ≤ 100000) : PRegionAgain.region_PutRoot.f (2 * xs.length + 14) (xs.map toR) = some (told (root xs)) := by
  unfold PRegionAgain.region_PutRoot.f
  rw [List.length_map, put_fR (xs.length : Int) [] _ (by omega) (by decide) (by omega), Int.toNat_natCast]
  simp only [Option.bind_some, List.nil_append]
  have := putRoot_l0 xs hxs xs.length 0 (2 * xs.length + 14) (num xs.length) none (0, 0, 0, 0) (by omega) (by omega) (fun _ => rfl) (fun h => absurd h (by omega)) (by have := num_le xs.length; omega) (by omega)
  rw [List.drop_zero] at this
  exact this
/-- PutRoot. -/
theorem putRoot_calls (A : Option Addr) (c : Nat) (xs : List Ent) (w : World) (hc : xs.length ≤ c) (hm : xs.length ≤ 100000) (hp : Kd.C kE w A xs.length xs) :
    Calls Try.prog 19 #[.slice A xs.length c] w fun e w' => ∃ v, e = .returned (.tuple #[v, .int .i64 (told (root xs)).2]) ∧ OB w' w.heap.size v (told (root xs)).1 ∧ Below w.heap.size w w' := by
  have h := PRegionAgain.region_PutRoot.calls (2 * xs.length + 14) A c (xs.map toR) (told (root xs)).1 (told (root xs)).2 w (by rw [List.length_map]; exact C_toR hp) (by rw [List.length_map]; exact hc) (putRoot_f xs hm)
  rw [List.length_map] at h
  exact h.mono fun e w' ⟨v, he, hR, hb⟩ => ⟨v, he, OB.of_R hR, hb⟩
end Go.Proofs.Ytijjecnmdhefbaa.RG

namespace Go.Proofs.Ytijjecnmdhefbaa.RG
open Go.RowKit Go.Proofs.YtijjecnmdhefbaaW.PrintWords Go.Proofs.YtijjecnmdhefbaaW.PrintLast Go.Proofs.YtijjecnmdhefbaaW.PrintMore Go.Proofs.Ytijjecnmdhefbaa.CD Go.Proofs.Ytijjecnmdhefbaa.BR Go.Proofs.Ytijjecnmdhefbaa.BP
set_option linter.unusedVariables false
set_option linter.unusedSimpArgs false
theorem region_calls (x : Ent) (w : World) : Calls Try.prog 41 #[.agg #[.int .i64 x.1, .int .i64 x.2.1, .int .i64 x.2.2.1, .int .i64 x.2.2.2]] w fun e w' => e = .returned (.bool (rMay x)) ∧ Below w.heap.size w w' :=
  PRegionAgain.region_region.calls x.1 x.2.1 x.2.2.1 x.2.2.2 _ w (region_f x)
theorem infoR : (Try.prog.info? 51).map (fun i => (i.zero, i.size, i.bytes)) = some (some (.agg #[.int .i64 0, .int .i64 0, .int .i64 0, .int .i64 0]), 4, 32) := by kernel_rfl
def lenOf : Value → Nat
  | .slice _ n _ => n
  | _ => 0
theorem rNext_len (s : St) : (rNext s).2.1.length ≤ s.1.length := by
  show (rNum s).2.1.length ≤ s.1.length
  rcases rNum_state s with e | ⟨k, e⟩
  · rw [e]; exact Nat.le_refl _
  · rw [e, List.length_drop]; omega
theorem rInt_two (s : St) : rInt (s.1, s.2) = rInt' s := by
  unfold rInt rInt'
  show (if s.2 = true then (0, s) else (zag (rNum s).1, (rNum s).2)) = _
  cases h : s.2 with
  | true => rw [if_pos rfl]; unfold rNum; rw [h, if_pos rfl]; simp [zag]
  | false => rw [if_neg (by simp)]
theorem intX_calls (w0 : World) (C g : Nat) (s : St) (w : World) (h : Nx w0 w C g s) :
    Calls Try.prog 46 #[.pointer (some ⟨g, 0, none⟩)] w fun e w' => e = .returned (.int .i64 (rInt' s).1) ∧ Nx w0 w' C g (rInt' s).2 ∧ w.grownBy w' (some g) := by
  have h1 := BQ.int_calls g s.1 s.2 w h.rdr
  rw [rInt_two] at h1
  exact h1.mono fun e w' ⟨he, hr, hg⟩ => ⟨he, h.step hr hg, hg⟩
/-- The region's own variable, before it is filled. -/
def ZB (W : World) (D g B : Nat) : Prop := W.heap[D]? = some (.cells #[.int .i64 0, .int .i64 0, .int .i64 0, .int .i64 0] 51 (0, 0)) ∧ g < D ∧ B ≤ D
theorem ZB.step {W W' : World} {D g B : Nat} (h : ZB W D g B) (hg : W.grownBy W' (some g)) : ZB W' D g B := ⟨blk_grown h.1 hg (fun e => by injection e with e; have := h.2.1; omega), h.2⟩
theorem ZB.new (W : World) {g B : Nat} (h : g < W.heap.size) (hB : B ≤ W.heap.size) : ZB (W.alloc (.cells #[.int .i64 0, .int .i64 0, .int .i64 0, .int .i64 0] 51)) W.heap.size g B := ⟨blk_new _ _, h, hB⟩
theorem ZB.at_ {W : World} {D g B : Nat} (h : ZB W D g B) : (W.cell? ⟨D, 0, none⟩ = some (.int .i64 0) ∧ W.cell? ⟨D, 1, none⟩ = some (.int .i64 0) ∧ W.cell? ⟨D, 2, none⟩ = some (.int .i64 0) ∧ W.cell? ⟨D, 3, none⟩ = some (.int .i64 0)) ∧ W.frozen? ⟨D, 0, none⟩ = false ∧ W.frozen? ⟨D, 1, none⟩ = false ∧ W.frozen? ⟨D, 2, none⟩ = false ∧ W.frozen? ⟨D, 3, none⟩ = false :=
  ⟨⟨blk_cell h.1 0, blk_cell h.1 1, blk_cell h.1 2, blk_cell h.1 3⟩, blk_frozen h.1 0, blk_frozen h.1 1, blk_frozen h.1 2, blk_frozen h.1 3⟩
theorem ZB.stored {W : World} {D g B : Nat} (h : ZB W D g B) (a b c d : Int) : ((((W.setCell ⟨D, 0, none⟩ (.int .i64 a)).setCell ⟨D, 1, none⟩ (.int .i64 b)).setCell ⟨D, 2, none⟩ (.int .i64 c)).setCell ⟨D, 3, none⟩ (.int .i64 d)).heap[D]? = some (.cells #[.int .i64 a, .int .i64 b, .int .i64 c, .int .i64 d] 51 (0, 0)) :=
  blk_put (blk_put (blk_put (blk_put h.1 0 _ rfl) 1 _ rfl) 2 _ rfl) 3 _ rfl
theorem ZB.grown (W : World) (D : Nat) (a b c d : Value) : W.grownBy ((((W.setCell ⟨D, 0, none⟩ a).setCell ⟨D, 1, none⟩ b).setCell ⟨D, 2, none⟩ c).setCell ⟨D, 3, none⟩ d) (some D) := gset (gset (gset (gset (World.grownBy.refl _ _) _ _) _ _) _ _) _ _
section
variable {P : Program} {ops : Array Oper} {Q : Exit → Act → World → Prop}
theorem goesV_ {oi : Oper} {N : Option Tmp} {a : Act} {w : World} {K : Act → World → Prop} {f : FuncId} {fn : Func} (hf : P.funcs[f]? = some fn) (hname : (fn.name == "runtime.NumGoroutine") = false) (hb : fn.body.isSome = true) (x : Operand) (cs : Array Value)
    (hw : Region.wanted oi (yielded ops a.tmps) = true) (hv : a.eval x = .func (.func f) #[] cs) (hN : oi.dst = N) (hop : oi.op = .call { callee := .value x, args := #[], argTypes := #[] })
    (h : Calls P f cs w fun e w' => ∃ v, e = .returned v ∧ K (a.put N v) w') : if Region.wanted oi (yielded ops a.tmps) = true then Oper.wp P oi a w K Q else K (a.put N undef) w := by
  refine call_ f cs hw hN ?_ h
  have he := enters_ hf hname hb cs w
  unfold execOp
  simp [hop, resolve, Deferred.ofValue, invoke, hv, he]
end
theorem Nx.ptr {w0 W : World} {C g : Nat} {s : St} (h : Nx w0 W C g s) : W.cell? ⟨C, 0, none⟩ = some (.pointer (some ⟨g, 0, none⟩)) := blk_cell h.cell 0
set_option maxHeartbeats 4000000 in
set_option maxRecDepth 100000 in
theorem getroot_region (A : Option Addr) (c : Nat) (X : List Int) (w : World) (hr : ReadsInt w .u8 A X.length X) (hc : X.length ≤ c) (hb : Bytes X) (hs : X.length ≤ 100000) :
    Calls Try.prog 21 #[.slice A X.length c] w fun e w' => Got 51 (getRoot X) w e w' := by
  have HR0 := Lib.hid hr
  have HN := Lib.hid (BQ.new_calls A c X w hr hc hb (by omega))
  have HC := Lib.hid hc
  have HB := Lib.hid hb
  obtain ⟨O, hO⟩ : ∃ O, O = getRoot X := ⟨_, rfl⟩
  rw [← hO]
  obtain ⟨G, hG⟩ : ∃ G, G = getR0 X := ⟨_, rfl⟩
  have HO := Lib.hid (show O = finR X G by rw [hO, hG]; rfl)
  obtain ⟨⟨nn, s1⟩, hn⟩ : ∃ q, rNext (X, false) = q := ⟨_, rfl⟩
  have hnr := rNext_range (X, false) hb
  have hnl := rNext_len (X, false)
  rw [hn] at hnr hnl
  simp only at hnr hnl
  have HG := Lib.hid (show G = getRF (X.length + 2) nn s1 [] by rw [hG]; unfold getR0; rw [hn])
  have Hn := Lib.hid hn
  clear hr hc hb hO hG hn
  go_enter Try.func21, Try.ntmps21
  go_wp2_with fail
  refine HN.out.mono ?_; rintro e w1 ⟨g, rfl, hg, hr1, hb1⟩
  have hnx0 : Nx w (w1.alloc (.cells #[.pointer (some ⟨g, 0, none⟩)] 65)) w1.heap.size g (X, false) := ⟨hr1.below (below_alloc (Below.refl _ _) _), blk_new _ _, below_alloc hb1 _, hg, hr1.lt⟩
  have HX0 := Lib.hid hnx0
  clear hg hr1 hb1 hnx0
  go_wp2_with fail
  refine (nextGetRoot_calls w w1.heap.size g (X, false) _ HX0.out).mono ?_
  rw [Hn.out]
  rintro e w2 ⟨rfl, hx2, hg2⟩
  have HX2 := Lib.hid hx2
  clear hx2 hg2
  go_wp2_with fail
  go_loopw [6] (fun lv W => ∃ (acc : List Ent) (s : St), lenOf lv = acc.length ∧ 4 * acc.length + s.1.length ≤ X.length ∧ Aside0 (Nx w W w1.heap.size g s) ∧ Aside0 (Kd.R kE 51 W w.heap.size (fun k => w1.heap.size < k) lv acc) ∧ Aside0 (G = getRF (X.length + 2 - acc.length) nn s acc)) (fun lv _ => X.length + 5 - lenOf lv)
  case atStart => exact ⟨[], s1, rfl, by simp; omega, ⟨HX2.out⟩, ⟨Kd.R_nil _ _ _ _ _⟩, ⟨HG.out⟩⟩
  case round =>
    obtain ⟨acc, s, hlen, hacc, ⟨hx⟩, ⟨hR⟩, ⟨hG⟩⟩ := hrel
    have HX := Lib.hid hx
    obtain ⟨A6, c6, rfl, hc6, hC6⟩ := Kd.R_reads hR
    have HR := Lib.hid hR
    have HE := Lib.hid hC6
    have HGj := Lib.hid hG
    have hl63 : acc.length ≤ 25000 := by omega
    obtain ⟨f, hf⟩ : ∃ f, X.length + 2 - acc.length = f + 1 := ⟨X.length + 1 - acc.length, by omega⟩
    have Hf := Lib.hid hf
    clear hx hR hC6 hG hf hlen
    by_cases hgo : 0 < nn ∧ (acc.length : Int) < nn ∧ s.2 = false
    · obtain ⟨g1, g2, g3⟩ := hgo
      have hd1 : decide ((0 : Int) < nn) = true := decide_eq_true g1
      have hd2 : decide ((acc.length : Int) < nn) = true := decide_eq_true g2
      have Hc1 := Lib.hid (show (acc.length : Int) < nn ∧ s.2 = false from ⟨g2, g3⟩)
      have HErr := Lib.hid (BQ.err_calls g s.1 s.2 wr HX.out.rdr)
      rw [g3] at HErr
      have hcc := HX.out.ptr
      clear g1 g2 g3
      obtain ⟨⟨x1, sa⟩, hx1⟩ : ∃ q, rInt' s = q := ⟨_, rfl⟩
      obtain ⟨⟨x2, sb⟩, hx2⟩ : ∃ q, rInt' sa = q := ⟨_, rfl⟩
      obtain ⟨⟨hd, sh⟩, hhd⟩ : ∃ q, rNext sb = q := ⟨_, rfl⟩
      obtain ⟨⟨sz, sl⟩, hsz⟩ : ∃ q, rNext sh = q := ⟨_, rfl⟩
      have hre : rRegion s = ((x1, x2, hd, sz), sl) := by unfold rRegion; rw [hx1]; simp only; rw [hx2]; simp only; rw [hhd]; simp only; rw [hsz]
      have Hre := Lib.hid hre
      have Hx1 := Lib.hid hx1
      have Hx2 := Lib.hid hx2
      have Hhd := Lib.hid hhd
      have Hsz := Lib.hid hsz
      clear hre hx1 hx2 hhd hsz
      go_wp2_with fail
      refine HErr.out.mono ?_; rintro e w3 ⟨rfl, ⟨n3, rfl⟩⟩
      clear hcc
      have hcc := (HX.out.under (pw_below_drewN (Below.refl _ _) n3)).ptr
      go_wp2_with fail
      have HX0 := Lib.hid (HX.out.under (below_drew (pw_below_drewN (Below.refl _ _) n3)))
      have HG0 := Lib.hid (show wr.grownBy (wr.drewN n3).drew (some g) from gdrew (gdrewN (World.grownBy.refl _ _) n3))
      have HX0b := Lib.hid (HX.out.under (pw_below_drewN (Below.refl _ _) (n3 + 1)))
      have HG0b := Lib.hid (show wr.grownBy (wr.drewN (n3 + 1)) (some g) from gdrewN (World.grownBy.refl _ _) (n3 + 1))
      have HI1 := Lib.hid (fun W (h : Nx w W w1.heap.size g s) => intX_calls w w1.heap.size g s W h)
      have HI2 := Lib.hid (fun W (h : Nx w W w1.heap.size g sa) => intX_calls w w1.heap.size g sa W h)
      have HI3 := Lib.hid (fun W (h : Nx w W w1.heap.size g sb) => nextGetRoot_calls w w1.heap.size g sb W h)
      have HI4 := Lib.hid (fun W (h : Nx w W w1.heap.size g sh) => nextGetRoot_calls w w1.heap.size g sh W h)
      rw [Hx1.out] at HI1
      rw [Hx2.out] at HI2
      rw [Hhd.out] at HI3
      rw [Hsz.out] at HI4
      simp only at HI1 HI2 HI3 HI4
      refine start_ (n := 11) (S := fun w' => w'.cell? ⟨w1.heap.size, 0, none⟩ = some (.pointer (some ⟨g, 0, none⟩))) (ds := [10]) #[false, false, false, false, false, false, false, false, false, false, false] (by kernel_rfl) rfl rfl (HX0.out.ptr) (fun hHeld => ?_)
      refine pure_ (i := 4) (N := some 33) (v := ?_) (a' := ?_) #[false, false, false, false, true, false, false, false, false, false, false] rfl rfl (by kernel_rfl) (fun _ _ _ h => h) (Or.inl ⟨by rfl, ?_⟩) ?_ ?_
      rotate_left
      · intro w'
        go_simp
        with_reducible rfl
      rotate_left
      · simp only [Act.put, List.setIfInBounds_toArray, List.set_cons_zero, List.set_cons_succ, i64_w, i32_w]
        rfl
      refine pure_ (i := 6) (N := some 35) (v := ?_) (a' := ?_) #[false, false, false, false, true, false, true, false, false, false, false] rfl rfl (by kernel_rfl) (fun _ _ _ h => h) (Or.inl ⟨by rfl, ?_⟩) ?_ ?_
      rotate_left
      · intro w'
        go_simp
        with_reducible rfl
      rotate_left
      · simp only [Act.put, List.setIfInBounds_toArray, List.set_cons_zero, List.set_cons_succ, i64_w, i32_w]
        rfl
      refine take_ (i := 0) (N := some 29) (v := ?_) (a' := ?_) #[true, false, false, false, true, false, true, false, false, false, false] rfl rfl (by kernel_rfl) (fun _ _ _ h => h) (Or.inl ⟨by rfl, ?_⟩) hHeld ?_ ?_
      rotate_left
      · intro w' s0
        go_simp
        with_reducible rfl
      rotate_left
      · simp only [Act.put, List.setIfInBounds_toArray, List.set_cons_zero, List.set_cons_succ, i64_w, i32_w]
        rfl
      refine take_ (i := 2) (N := some 31) (v := ?_) (a' := ?_) #[true, false, true, false, true, false, true, false, false, false, false] rfl rfl (by kernel_rfl) (fun _ _ _ h => h) (Or.inl ⟨by rfl, ?_⟩) hHeld ?_ ?_
      rotate_left
      · intro w' s0
        go_simp
        with_reducible rfl
      rotate_left
      · simp only [Act.put, List.setIfInBounds_toArray, List.set_cons_zero, List.set_cons_succ, i64_w, i32_w]
        rfl
      refine join_ (σ := Nat) 1 #[true, true, true, true, true, true, true, true, true, true, false] (fun s => [(30, .int .i64 x1), (32, .int .i64 x2), (34, .int .i64 hd), (36, .int .i64 sz), (37, .agg #[.int .i64 x1, .int .i64 x2, .int .i64 hd, .int .i64 sz]), (8, .pointer (some ⟨s, 0, none⟩))]) (fun D w' => Nx w w' w1.heap.size g sl ∧ ZB w' D g wr.heap.size ∧ wr.grownBy w' (some g)) ?_ ?_
      rotate_left
      · intro hCont
        refine two_ (i := 1) (j := 9) (Ni := some 30) (Nj := some 8) #[true, true, true, false, true, false, true, false, false, false, false] #[true, false, true, false, true, false, true, false, false, true, false] rfl rfl rfl rfl (by kernel_rfl) (by decide) (by decide) (fun K hK => ?_) (fun K hK => ?_)
        · skip
          refine goes_ Try.func46 (by kernel_rfl) rfl #[.pointer (some ⟨g, 0, none⟩)] (by rfl) rfl rfl (by simp only [List.map_toArray, List.map_cons, List.map_nil]; rfl) ?_
          with_reducible refine (HI1.out _ HX0.out).mono ?_
          rintro e v1 ⟨rfl, hx, hg⟩
          refine ⟨_, rfl, ?_⟩
          have HX1 := Lib.hid hx
          have HG1 := Lib.hid (gtrans HG0.out hg)
          clear hx hg
          refine hK.out _ _ (HX1.out.ptr) (fun hHeld => ?_)
          clear hK K
          refine norm_ (a' := ?_) ?_ ?_
          rotate_left
          · show Act.put _ (some 30) _ = _
            simp only [Act.put, List.setIfInBounds_toArray, List.set_cons_zero, List.set_cons_succ, i64_w, i32_w]
            rfl
          refine two_ (i := 3) (j := 9) (Ni := some 32) (Nj := some 8) #[true, true, true, true, true, false, true, false, false, false, false] #[true, true, true, false, true, false, true, false, false, true, false] rfl rfl rfl rfl (by kernel_rfl) (by decide) (by decide) (fun K hK => ?_) (fun K hK => ?_)
          · skip
            refine goes_ Try.func46 (by kernel_rfl) rfl #[.pointer (some ⟨g, 0, none⟩)] (by rfl) rfl rfl (by simp only [List.map_toArray, List.map_cons, List.map_nil]; rfl) ?_
            with_reducible refine (HI2.out _ HX1.out).mono ?_
            rintro e v3 ⟨rfl, hx, hg⟩
            refine ⟨_, rfl, ?_⟩
            have HX3 := Lib.hid hx
            have HG3 := Lib.hid (gtrans HG1.out hg)
            clear hx hg
            refine hK.out _ _ (HX3.out.ptr) (fun hHeld => ?_)
            clear hK K
            refine norm_ (a' := ?_) ?_ ?_
            rotate_left
            · show Act.put _ (some 32) _ = _
              simp only [Act.put, List.setIfInBounds_toArray, List.set_cons_zero, List.set_cons_succ, i64_w, i32_w]
              rfl
            refine two_ (i := 5) (j := 9) (Ni := some 34) (Nj := some 8) #[true, true, true, true, true, true, true, false, false, false, false] #[true, true, true, true, true, false, true, false, false, true, false] rfl rfl rfl rfl (by kernel_rfl) (by decide) (by decide) (fun K hK => ?_) (fun K hK => ?_)
            · skip
              refine goesV_ Try.func45 (by kernel_rfl) rfl _ #[.pointer (some ⟨w1.heap.size, 0, none⟩)] (by rfl) (by rfl) rfl rfl ?_
              with_reducible refine (HI3.out _ HX3.out).mono ?_
              rintro e v5 ⟨rfl, hx, hg⟩
              refine ⟨_, rfl, ?_⟩
              have HX5 := Lib.hid hx
              have HG5 := Lib.hid (gtrans HG3.out hg)
              clear hx hg
              refine hK.out _ _ (HX5.out.ptr) (fun hHeld => ?_)
              clear hK K
              refine norm_ (a' := ?_) ?_ ?_
              rotate_left
              · show Act.put _ (some 34) _ = _
                simp only [Act.put, List.setIfInBounds_toArray, List.set_cons_zero, List.set_cons_succ, i64_w, i32_w]
                rfl
              refine two_ (i := 7) (j := 9) (Ni := some 36) (Nj := some 8) #[true, true, true, true, true, true, true, true, false, false, false] #[true, true, true, true, true, true, true, false, false, true, false] rfl rfl rfl rfl (by kernel_rfl) (by decide) (by decide) (fun K hK => ?_) (fun K hK => ?_)
              · skip
                refine goesV_ Try.func45 (by kernel_rfl) rfl _ #[.pointer (some ⟨w1.heap.size, 0, none⟩)] (by rfl) (by rfl) rfl rfl ?_
                with_reducible refine (HI4.out _ HX5.out).mono ?_
                rintro e v7 ⟨rfl, hx, hg⟩
                refine ⟨_, rfl, ?_⟩
                have HX7 := Lib.hid hx
                have HG7 := Lib.hid (gtrans HG5.out hg)
                clear hx hg
                refine hK.out _ _ (HX7.out.ptr) (fun hHeld => ?_)
                clear hK K
                refine norm_ (a' := ?_) ?_ ?_
                rotate_left
                · show Act.put _ (some 36) _ = _
                  simp only [Act.put, List.setIfInBounds_toArray, List.set_cons_zero, List.set_cons_succ, i64_w, i32_w]
                  rfl
                refine pure_ (i := 8) (N := some 37) (v := ?_) (a' := ?_) #[true, true, true, true, true, true, true, true, true, false, false] rfl rfl (by kernel_rfl) (fun _ _ _ h => h) (Or.inl ⟨by rfl, ?_⟩) ?_ ?_
                rotate_left
                · intro w'
                  go_simp
                  with_reducible rfl
                rotate_left
                · simp only [Act.put, List.setIfInBounds_toArray, List.set_cons_zero, List.set_cons_succ, i64_w, i32_w]
                  rfl
                refine one_ (i := 9) (N := some 8) #[true, true, true, true, true, true, true, true, true, true, false] rfl rfl (by kernel_rfl) (by decide) (fun K hK => ?_)
                refine value_ (w1 := ?_) (v := ?_) (by rfl) rfl ?_ ?_
                rotate_left 2
                · go_simp
                  constructor
                  · rfl
                  · rfl
                refine hK.out _ _ ((HX7.out.under (below_alloc (Below.refl _ _) _)).ptr) (fun hHeld => ?_)
                clear hK K
                refine norm_ (a' := ?_) ?_ ?_
                rotate_left
                · show Act.put _ (some 8) _ = _
                  simp only [Act.put, List.setIfInBounds_toArray, List.set_cons_zero, List.set_cons_succ, i64_w, i32_w]
                  rfl
                exact norm_ (by simp only [putAll, Act.put, List.setIfInBounds_toArray, List.set_cons_zero, List.set_cons_succ]) (hCont v7.heap.size _ ⟨HX7.out.under (below_alloc (Below.refl _ _) _), ZB.new _ HX7.out.rdr.lt HG7.out.size, gbelow HG7.out (below_alloc (Below.refl _ _) _)⟩)
              · skip
                refine value_ (w1 := ?_) (v := ?_) (by rfl) rfl ?_ ?_
                rotate_left 2
                · go_simp
                  constructor
                  · rfl
                  · rfl
                refine hK.out _ _ ((HX5.out.under (below_alloc (Below.refl _ _) _)).ptr) (fun hHeld => ?_)
                clear hK K
                refine norm_ (a' := ?_) ?_ ?_
                rotate_left
                · show Act.put _ (some 8) _ = _
                  simp only [Act.put, List.setIfInBounds_toArray, List.set_cons_zero, List.set_cons_succ, i64_w, i32_w]
                  rfl
                refine one_ (i := 7) (N := some 36) #[true, true, true, true, true, true, true, true, false, true, false] rfl rfl (by kernel_rfl) (by decide) (fun K hK => ?_)
                refine goesV_ Try.func45 (by kernel_rfl) rfl _ #[.pointer (some ⟨w1.heap.size, 0, none⟩)] (by rfl) (by rfl) rfl rfl ?_
                with_reducible refine (HI4.out _ (HX5.out.under (below_alloc (Below.refl _ _) _))).mono ?_
                rintro e v7 ⟨rfl, hx, hg⟩
                refine ⟨_, rfl, ?_⟩
                have HX7 := Lib.hid hx
                have HG7 := Lib.hid (gtrans (gbelow HG5.out (below_alloc (Below.refl _ _) _)) hg)
                have HZ7 := Lib.hid ((ZB.new _ HX5.out.rdr.lt HG5.out.size).step hg)
                clear hx hg
                refine hK.out _ _ (HX7.out.ptr) (fun hHeld => ?_)
                clear hK K
                refine norm_ (a' := ?_) ?_ ?_
                rotate_left
                · show Act.put _ (some 36) _ = _
                  simp only [Act.put, List.setIfInBounds_toArray, List.set_cons_zero, List.set_cons_succ, i64_w, i32_w]
                  rfl
                refine pure_ (i := 8) (N := some 37) (v := ?_) (a' := ?_) #[true, true, true, true, true, true, true, true, true, true, false] rfl rfl (by kernel_rfl) (fun _ _ _ h => h) (Or.inl ⟨by rfl, ?_⟩) ?_ ?_
                rotate_left
                · intro w'
                  go_simp
                  with_reducible rfl
                rotate_left
                · simp only [Act.put, List.setIfInBounds_toArray, List.set_cons_zero, List.set_cons_succ, i64_w, i32_w]
                  rfl
                exact norm_ (by simp only [putAll, Act.put, List.setIfInBounds_toArray, List.set_cons_zero, List.set_cons_succ]) (hCont v5.heap.size _ ⟨HX7.out, HZ7.out, HG7.out⟩)
            · skip
              refine value_ (w1 := ?_) (v := ?_) (by rfl) rfl ?_ ?_
              rotate_left 2
              · go_simp
                constructor
                · rfl
                · rfl
              refine hK.out _ _ ((HX3.out.under (below_alloc (Below.refl _ _) _)).ptr) (fun hHeld => ?_)
              clear hK K
              refine norm_ (a' := ?_) ?_ ?_
              rotate_left
              · show Act.put _ (some 8) _ = _
                simp only [Act.put, List.setIfInBounds_toArray, List.set_cons_zero, List.set_cons_succ, i64_w, i32_w]
                rfl
              refine one_ (i := 5) (N := some 34) #[true, true, true, true, true, true, true, false, false, true, false] rfl rfl (by kernel_rfl) (by decide) (fun K hK => ?_)
              refine goesV_ Try.func45 (by kernel_rfl) rfl _ #[.pointer (some ⟨w1.heap.size, 0, none⟩)] (by rfl) (by rfl) rfl rfl ?_
              with_reducible refine (HI3.out _ (HX3.out.under (below_alloc (Below.refl _ _) _))).mono ?_
              rintro e v5 ⟨rfl, hx, hg⟩
              refine ⟨_, rfl, ?_⟩
              have HX5 := Lib.hid hx
              have HG5 := Lib.hid (gtrans (gbelow HG3.out (below_alloc (Below.refl _ _) _)) hg)
              have HZ5 := Lib.hid ((ZB.new _ HX3.out.rdr.lt HG3.out.size).step hg)
              clear hx hg
              refine hK.out _ _ (HX5.out.ptr) (fun hHeld => ?_)
              clear hK K
              refine norm_ (a' := ?_) ?_ ?_
              rotate_left
              · show Act.put _ (some 34) _ = _
                simp only [Act.put, List.setIfInBounds_toArray, List.set_cons_zero, List.set_cons_succ, i64_w, i32_w]
                rfl
              refine one_ (i := 7) (N := some 36) #[true, true, true, true, true, true, true, true, false, true, false] rfl rfl (by kernel_rfl) (by decide) (fun K hK => ?_)
              refine goesV_ Try.func45 (by kernel_rfl) rfl _ #[.pointer (some ⟨w1.heap.size, 0, none⟩)] (by rfl) (by rfl) rfl rfl ?_
              with_reducible refine (HI4.out _ HX5.out).mono ?_
              rintro e v7 ⟨rfl, hx, hg⟩
              refine ⟨_, rfl, ?_⟩
              have HX7 := Lib.hid hx
              have HG7 := Lib.hid (gtrans HG5.out hg)
              have HZ7 := Lib.hid (HZ5.out.step hg)
              clear hx hg
              refine hK.out _ _ (HX7.out.ptr) (fun hHeld => ?_)
              clear hK K
              refine norm_ (a' := ?_) ?_ ?_
              rotate_left
              · show Act.put _ (some 36) _ = _
                simp only [Act.put, List.setIfInBounds_toArray, List.set_cons_zero, List.set_cons_succ, i64_w, i32_w]
                rfl
              refine pure_ (i := 8) (N := some 37) (v := ?_) (a' := ?_) #[true, true, true, true, true, true, true, true, true, true, false] rfl rfl (by kernel_rfl) (fun _ _ _ h => h) (Or.inl ⟨by rfl, ?_⟩) ?_ ?_
              rotate_left
              · intro w'
                go_simp
                with_reducible rfl
              rotate_left
              · simp only [Act.put, List.setIfInBounds_toArray, List.set_cons_zero, List.set_cons_succ, i64_w, i32_w]
                rfl
              exact norm_ (by simp only [putAll, Act.put, List.setIfInBounds_toArray, List.set_cons_zero, List.set_cons_succ]) (hCont v3.heap.size _ ⟨HX7.out, HZ7.out, HG7.out⟩)
          · skip
            refine value_ (w1 := ?_) (v := ?_) (by rfl) rfl ?_ ?_
            rotate_left 2
            · go_simp
              constructor
              · rfl
              · rfl
            refine hK.out _ _ ((HX1.out.under (below_alloc (Below.refl _ _) _)).ptr) (fun hHeld => ?_)
            clear hK K
            refine norm_ (a' := ?_) ?_ ?_
            rotate_left
            · show Act.put _ (some 8) _ = _
              simp only [Act.put, List.setIfInBounds_toArray, List.set_cons_zero, List.set_cons_succ, i64_w, i32_w]
              rfl
            refine one_ (i := 3) (N := some 32) #[true, true, true, true, true, false, true, false, false, true, false] rfl rfl (by kernel_rfl) (by decide) (fun K hK => ?_)
            refine goes_ Try.func46 (by kernel_rfl) rfl #[.pointer (some ⟨g, 0, none⟩)] (by rfl) rfl rfl (by simp only [List.map_toArray, List.map_cons, List.map_nil]; rfl) ?_
            with_reducible refine (HI2.out _ (HX1.out.under (below_alloc (Below.refl _ _) _))).mono ?_
            rintro e v3 ⟨rfl, hx, hg⟩
            refine ⟨_, rfl, ?_⟩
            have HX3 := Lib.hid hx
            have HG3 := Lib.hid (gtrans (gbelow HG1.out (below_alloc (Below.refl _ _) _)) hg)
            have HZ3 := Lib.hid ((ZB.new _ HX1.out.rdr.lt HG1.out.size).step hg)
            clear hx hg
            refine hK.out _ _ (HX3.out.ptr) (fun hHeld => ?_)
            clear hK K
            refine norm_ (a' := ?_) ?_ ?_
            rotate_left
            · show Act.put _ (some 32) _ = _
              simp only [Act.put, List.setIfInBounds_toArray, List.set_cons_zero, List.set_cons_succ, i64_w, i32_w]
              rfl
            refine one_ (i := 5) (N := some 34) #[true, true, true, true, true, true, true, false, false, true, false] rfl rfl (by kernel_rfl) (by decide) (fun K hK => ?_)
            refine goesV_ Try.func45 (by kernel_rfl) rfl _ #[.pointer (some ⟨w1.heap.size, 0, none⟩)] (by rfl) (by rfl) rfl rfl ?_
            with_reducible refine (HI3.out _ HX3.out).mono ?_
            rintro e v5 ⟨rfl, hx, hg⟩
            refine ⟨_, rfl, ?_⟩
            have HX5 := Lib.hid hx
            have HG5 := Lib.hid (gtrans HG3.out hg)
            have HZ5 := Lib.hid (HZ3.out.step hg)
            clear hx hg
            refine hK.out _ _ (HX5.out.ptr) (fun hHeld => ?_)
            clear hK K
            refine norm_ (a' := ?_) ?_ ?_
            rotate_left
            · show Act.put _ (some 34) _ = _
              simp only [Act.put, List.setIfInBounds_toArray, List.set_cons_zero, List.set_cons_succ, i64_w, i32_w]
              rfl
            refine one_ (i := 7) (N := some 36) #[true, true, true, true, true, true, true, true, false, true, false] rfl rfl (by kernel_rfl) (by decide) (fun K hK => ?_)
            refine goesV_ Try.func45 (by kernel_rfl) rfl _ #[.pointer (some ⟨w1.heap.size, 0, none⟩)] (by rfl) (by rfl) rfl rfl ?_
            with_reducible refine (HI4.out _ HX5.out).mono ?_
            rintro e v7 ⟨rfl, hx, hg⟩
            refine ⟨_, rfl, ?_⟩
            have HX7 := Lib.hid hx
            have HG7 := Lib.hid (gtrans HG5.out hg)
            have HZ7 := Lib.hid (HZ5.out.step hg)
            clear hx hg
            refine hK.out _ _ (HX7.out.ptr) (fun hHeld => ?_)
            clear hK K
            refine norm_ (a' := ?_) ?_ ?_
            rotate_left
            · show Act.put _ (some 36) _ = _
              simp only [Act.put, List.setIfInBounds_toArray, List.set_cons_zero, List.set_cons_succ, i64_w, i32_w]
              rfl
            refine pure_ (i := 8) (N := some 37) (v := ?_) (a' := ?_) #[true, true, true, true, true, true, true, true, true, true, false] rfl rfl (by kernel_rfl) (fun _ _ _ h => h) (Or.inl ⟨by rfl, ?_⟩) ?_ ?_
            rotate_left
            · intro w'
              go_simp
              with_reducible rfl
            rotate_left
            · simp only [Act.put, List.setIfInBounds_toArray, List.set_cons_zero, List.set_cons_succ, i64_w, i32_w]
              rfl
            exact norm_ (by simp only [putAll, Act.put, List.setIfInBounds_toArray, List.set_cons_zero, List.set_cons_succ]) (hCont v1.heap.size _ ⟨HX7.out, HZ7.out, HG7.out⟩)
        · skip
          refine value_ (w1 := ?_) (v := ?_) (by rfl) rfl ?_ ?_
          rotate_left 2
          · go_simp
            constructor
            · rfl
            · rfl
          refine hK.out _ _ ((HX0b.out.under (below_alloc (Below.refl _ _) _)).ptr) (fun hHeld => ?_)
          clear hK K
          refine norm_ (a' := ?_) ?_ ?_
          rotate_left
          · show Act.put _ (some 8) _ = _
            simp only [Act.put, List.setIfInBounds_toArray, List.set_cons_zero, List.set_cons_succ, i64_w, i32_w]
            rfl
          refine one_ (i := 1) (N := some 30) #[true, true, true, false, true, false, true, false, false, true, false] rfl rfl (by kernel_rfl) (by decide) (fun K hK => ?_)
          refine goes_ Try.func46 (by kernel_rfl) rfl #[.pointer (some ⟨g, 0, none⟩)] (by rfl) rfl rfl (by simp only [List.map_toArray, List.map_cons, List.map_nil]; rfl) ?_
          with_reducible refine (HI1.out _ (HX0b.out.under (below_alloc (Below.refl _ _) _))).mono ?_
          rintro e v1 ⟨rfl, hx, hg⟩
          refine ⟨_, rfl, ?_⟩
          have HX1 := Lib.hid hx
          have HG1 := Lib.hid (gtrans (gbelow HG0b.out (below_alloc (Below.refl _ _) _)) hg)
          have HZ1 := Lib.hid ((ZB.new _ HX0b.out.rdr.lt HG0b.out.size).step hg)
          clear hx hg
          refine hK.out _ _ (HX1.out.ptr) (fun hHeld => ?_)
          clear hK K
          refine norm_ (a' := ?_) ?_ ?_
          rotate_left
          · show Act.put _ (some 30) _ = _
            simp only [Act.put, List.setIfInBounds_toArray, List.set_cons_zero, List.set_cons_succ, i64_w, i32_w]
            rfl
          refine one_ (i := 3) (N := some 32) #[true, true, true, true, true, false, true, false, false, true, false] rfl rfl (by kernel_rfl) (by decide) (fun K hK => ?_)
          refine goes_ Try.func46 (by kernel_rfl) rfl #[.pointer (some ⟨g, 0, none⟩)] (by rfl) rfl rfl (by simp only [List.map_toArray, List.map_cons, List.map_nil]; rfl) ?_
          with_reducible refine (HI2.out _ HX1.out).mono ?_
          rintro e v3 ⟨rfl, hx, hg⟩
          refine ⟨_, rfl, ?_⟩
          have HX3 := Lib.hid hx
          have HG3 := Lib.hid (gtrans HG1.out hg)
          have HZ3 := Lib.hid (HZ1.out.step hg)
          clear hx hg
          refine hK.out _ _ (HX3.out.ptr) (fun hHeld => ?_)
          clear hK K
          refine norm_ (a' := ?_) ?_ ?_
          rotate_left
          · show Act.put _ (some 32) _ = _
            simp only [Act.put, List.setIfInBounds_toArray, List.set_cons_zero, List.set_cons_succ, i64_w, i32_w]
            rfl
          refine one_ (i := 5) (N := some 34) #[true, true, true, true, true, true, true, false, false, true, false] rfl rfl (by kernel_rfl) (by decide) (fun K hK => ?_)
          refine goesV_ Try.func45 (by kernel_rfl) rfl _ #[.pointer (some ⟨w1.heap.size, 0, none⟩)] (by rfl) (by rfl) rfl rfl ?_
          with_reducible refine (HI3.out _ HX3.out).mono ?_
          rintro e v5 ⟨rfl, hx, hg⟩
          refine ⟨_, rfl, ?_⟩
          have HX5 := Lib.hid hx
          have HG5 := Lib.hid (gtrans HG3.out hg)
          have HZ5 := Lib.hid (HZ3.out.step hg)
          clear hx hg
          refine hK.out _ _ (HX5.out.ptr) (fun hHeld => ?_)
          clear hK K
          refine norm_ (a' := ?_) ?_ ?_
          rotate_left
          · show Act.put _ (some 34) _ = _
            simp only [Act.put, List.setIfInBounds_toArray, List.set_cons_zero, List.set_cons_succ, i64_w, i32_w]
            rfl
          refine one_ (i := 7) (N := some 36) #[true, true, true, true, true, true, true, true, false, true, false] rfl rfl (by kernel_rfl) (by decide) (fun K hK => ?_)
          refine goesV_ Try.func45 (by kernel_rfl) rfl _ #[.pointer (some ⟨w1.heap.size, 0, none⟩)] (by rfl) (by rfl) rfl rfl ?_
          with_reducible refine (HI4.out _ HX5.out).mono ?_
          rintro e v7 ⟨rfl, hx, hg⟩
          refine ⟨_, rfl, ?_⟩
          have HX7 := Lib.hid hx
          have HG7 := Lib.hid (gtrans HG5.out hg)
          have HZ7 := Lib.hid (HZ5.out.step hg)
          clear hx hg
          refine hK.out _ _ (HX7.out.ptr) (fun hHeld => ?_)
          clear hK K
          refine norm_ (a' := ?_) ?_ ?_
          rotate_left
          · show Act.put _ (some 36) _ = _
            simp only [Act.put, List.setIfInBounds_toArray, List.set_cons_zero, List.set_cons_succ, i64_w, i32_w]
            rfl
          refine pure_ (i := 8) (N := some 37) (v := ?_) (a' := ?_) #[true, true, true, true, true, true, true, true, true, true, false] rfl rfl (by kernel_rfl) (fun _ _ _ h => h) (Or.inl ⟨by rfl, ?_⟩) ?_ ?_
          rotate_left
          · intro w'
            go_simp
            with_reducible rfl
          rotate_left
          · simp only [Act.put, List.setIfInBounds_toArray, List.set_cons_zero, List.set_cons_succ, i64_w, i32_w]
            rfl
          exact norm_ (by simp only [putAll, Act.put, List.setIfInBounds_toArray, List.set_cons_zero, List.set_cons_succ]) (hCont wr.heap.size _ ⟨HX7.out, HZ7.out, HG7.out⟩)
      rintro D w' ⟨hx9, hz9, hg9⟩
      have hHeld : w'.cell? ⟨w1.heap.size, 0, none⟩ = some (.pointer (some ⟨g, 0, none⟩)) := hx9.ptr
      have HX9 := Lib.hid hx9
      have HG9 := Lib.hid hg9
      have HZ9 := Lib.hid hz9
      obtain ⟨⟨z0, z1, z2, z3⟩, f0, f1, f2, f3⟩ := hz9.at_
      clear hx9 hg9 hz9
      refine norm_ (a' := ?_) ?_ ?_
      rotate_left
      · simp only [putAll, Act.put, List.setIfInBounds_toArray, List.set_cons_zero, List.set_cons_succ]
        rfl
      refine last_ (i := 10) (N := none) #[true, true, true, true, true, true, true, true, true, true, true] rfl rfl (by kernel_rfl) (by decide) (fun K hK => ?_)
      refine skip_ (w1 := ?_) (by rfl) rfl ?_ ?_
      rotate_left
      · go_simp
        rfl
      refine hK.out _ _ ?_
      clear hK K
      refine done_ (by kernel_rfl) ?_
      clear hHeld z0 z1 z2 z3 f0 f1 f2 f3
      have HS := Lib.hid (HZ9.out.stored x1 x2 hd sz)
      have z0 := blk_cell HS.out 0
      have z1 := blk_cell HS.out 1
      have z2 := blk_cell HS.out 2
      have z3 := blk_cell HS.out 3
      simp only [List.getElem?_toArray, List.getElem?_cons_succ, List.getElem?_cons_zero] at z0 z1 z2 z3
      go_wp2_with fail
      refine (region_calls (x1, x2, hd, sz) _).mono ?_; rintro e w9 ⟨rfl, hb9⟩
      have HXa := Lib.hid ((HX9.out.far (ZB.grown _ _ _ _ _ _) (fun k e => by injection e with e; have := HZ9.out.2.2; have := HX.out.lt; omega)).under hb9)
      have hb10 := blk_below HS.out hb9
      have y0 := blk_cell hb10 0
      have y1 := blk_cell hb10 1
      have y2 := blk_cell hb10 2
      have y3 := blk_cell hb10 3
      simp only [List.getElem?_toArray, List.getElem?_cons_succ, List.getElem?_cons_zero] at y0 y1 y2 y3
      have HRa := Lib.hid (Kd.R_step HR.out (fun k h1 h2 => (hb9.block k (Nat.lt_of_lt_of_le h2 (Nat.le_trans HG9.out.size (ZB.grown _ _ _ _ _ _).size))).trans (((ZB.grown _ _ _ _ _ _).block k (Nat.lt_of_lt_of_le h2 HG9.out.size) (fun e => by injection e with e; have := HZ9.out.2.2; omega)).trans (HG9.out.block k h2 (fun e => by injection e with e; have := HX.out.g2; omega)))))
      clear hb9 hb10 z0 z1 z2 z3
      cases hmay : rMay (x1, x2, hd, sz) with
      | false =>
        have hfin := Lib.hid (show O = none by rw [HO.out, HGj.out, Hf.out, getRF_may _ _ _ _ Hc1.out (by rw [Hre.out]; exact hmay)]; rfl)
        clear hmay
        go_wp2
        go_ret2
        rw [hfin.out]
        exact ⟨rfl, HXa.out.below⟩
      | true =>
        have hst := Lib.hid (show G = getRF f nn sl (acc ++ [(x1, x2, hd, sz)]) by rw [HGj.out, Hf.out, getRF_some _ _ _ _ Hc1.out (by rw [Hre.out]; exact hmay), Hre.out])
        have hless := (rRegion_less s HX.out.rdr.bytes (by rw [Hre.out]; exact hmay)).2
        rw [Hre.out] at hless
        simp only at hless
        clear hmay
        have Hok := Lib.hid HRa.out.1
        go_wp2_with (at_builtin; refine Kd.R_append kE (w0 := w) w.heap.size rfl (.tmp 41) (.tmp 43) 42 51 _ 32 rfl Try.underlying42 infoR rfl (by decide) (by decide) (.slice A6 acc.length c6) acc (x1, x2, hd, sz) [.int .i64 x1, .int .i64 x2, .int .i64 hd, .int .i64 sz] (fun k => w1.heap.size < k) (fun _ => False) rfl rfl (kE_mkM _ _ _ _) (fun _ h => h.elim) ?fresh HRa.out HXa.out.below HXa.out.below.size (by omega) ?_; (case fresh => exact fun k hk => Nat.lt_of_lt_of_le HXa.out.lt hk); intro v1 w10 hR10 hb10 hg10 hat10; have HXb := Lib.hid (HXa.out.far hg10 (fun k hk => Hok.out k hk)); obtain ⟨A7, c7, rfl, hc7, hC7⟩ := Kd.R_reads hR10; have HRb := Lib.hid hR10; clear hb10 hg10 hat10 hR10 hc7 hC7)
        go_roundw
        case rel => exact ⟨acc ++ [(x1, x2, hd, sz)], sl, by simp [lenOf], by rw [List.length_append]; simp; omega, ⟨HXb.out⟩, ⟨by have h := HRb.out; simp only [List.length_append, List.length_cons, List.length_nil] at h; exact h⟩, ⟨by rw [hst.out]; congr 1; rw [List.length_append]; have := Hf.out; simp; omega⟩⟩
        case measure => simp [lenOf]; omega
    · have hway : (¬ 0 < nn) ∨ (0 < nn ∧ ¬ (acc.length : Int) < nn) ∨ (0 < nn ∧ (acc.length : Int) < nn ∧ s.2 = true) := by
        by_cases k1 : 0 < nn
        · by_cases k2 : (acc.length : Int) < nn
          · exact .inr (.inr ⟨k1, k2, by cases hs2 : s.2 with | true => rfl | false => exact absurd ⟨k1, k2, hs2⟩ hgo⟩)
          · exact .inr (.inl ⟨k1, k2⟩)
        · exact .inl k1
      clear hgo
      rcases hway with k1 | ⟨k1, k2⟩ | ⟨k1, k2, k3⟩
      · have hd1 : decide ((0 : Int) < nn) = false := decide_eq_false k1
        have hput := Lib.hid (putRoot_calls A6 c6 acc wr hc6 (by omega) HE.out)
        have hend := Lib.hid (show G = some (acc, s) by rw [HGj.out, Hf.out]; exact getRF_end _ _ _ _ (fun h => k1 (by omega)))
        cases hdr : root acc with
        | error k =>
          rw [hdr] at hput
          have hfin := Lib.hid (show O = none by rw [HO.out, hend.out]; exact finR_err _ _ _ _ hdr)
          rcases root_err acc k hdr with rfl | rfl
          all_goals (
            clear hdr
            simp only [told] at hput
            go_wp2_with fail
            refine hput.out.mono ?_; rintro e wa ⟨v, rfl, ho, hba⟩
            obtain ⟨Ab, cb, rfl, hcb, hrb⟩ := ho.slice
            have HBa := Lib.hid (below_step HX.out.below hba)
            clear hba ho hcb hrb
            go_wp2
            go_ret2
            rw [hfin.out]
            exact ⟨rfl, HBa.out⟩)
        | ok b =>
          rw [hdr] at hput
          have hfin := Lib.hid (show O = if b = X ∧ s.2 = false then some acc else none by rw [HO.out, hend.out]; exact finR_ok _ _ _ _ hdr)
          have HBb := Lib.hid (root_bytes acc b (by omega) hdr)
          clear hdr
          simp only [told] at hput
          go_wp2_with fail
          refine hput.out.mono ?_; rintro e wa ⟨v, rfl, ho, hba⟩
          obtain ⟨Ab, cb, rfl, hcb, hrb⟩ := ho.slice
          have HXa := Lib.hid (HX.out.under hba)
          have HRa := Lib.hid (Kd.R_below HR.out hba)
          have Hrb := Lib.hid hrb
          have Hcb := Lib.hid hcb
          have HErr := Lib.hid (BQ.err_calls g s.1 s.2 _ HXa.out.rdr)
          have hcc := blk_cell HXa.out.cell 0
          simp only [List.getElem?_toArray, List.getElem?_cons_succ, List.getElem?_cons_zero] at hcc
          clear hba ho hrb hcb
          cases hs2 : s.2 with
          | true =>
            have hfin2 := Lib.hid (show O = none by rw [hfin.out, hs2]; simp)
            rw [hs2] at HErr
            clear hs2
            go_wp2_with fail
            refine HErr.out.mono ?_; rintro e wb ⟨rfl, ⟨nb, rfl⟩⟩
            clear hcc
            go_wp2
            go_ret2
            rw [hfin2.out]
            exact ⟨rfl, pw_below_drewN HXa.out.below _⟩
          | false =>
            rw [hs2] at HErr
            have hfin2 := Lib.hid (show O = if b = X then some acc else none by rw [hfin.out, hs2]; simp)
            clear hs2
            go_wp2_with fail
            refine HErr.out.mono ?_; rintro e wb ⟨rfl, ⟨nb, rfl⟩⟩
            clear hcc
            go_wp2_with fail
            refine (equal_calls Ab A cb c b X _ (Hrb.out.below (pw_below_drewN (Below.refl _ _) _)) Hcb.out (HR0.out.below (pw_below_drewN HXa.out.below _)) HC.out HBb.out HB.out).mono ?_; rintro e wc ⟨rfl, ⟨nc, rfl⟩⟩
            by_cases hbx : b = X
            · have hd9 : decide (b = X) = true := decide_eq_true hbx
              have hfin3 := Lib.hid (show O = some acc by rw [hfin2.out, if_pos hbx])
              clear hbx
              go_wp2
              go_ret2
              rw [hfin3.out]
              exact ⟨⟨_, rfl, Kd.R_mono (Kd.R_below HRa.out (pw_below_drewN (Below.refl _ _) _)) (fun _ _ => trivial)⟩, pw_below_drewN HXa.out.below _⟩
            · have hd9 : decide (b = X) = false := decide_eq_false hbx
              have hfin3 := Lib.hid (show O = none by rw [hfin2.out, if_neg hbx])
              clear hbx
              go_wp2
              go_ret2
              rw [hfin3.out]
              exact ⟨rfl, pw_below_drewN HXa.out.below _⟩
      · have hd1 : decide ((0 : Int) < nn) = true := decide_eq_true k1
        have hd2 : decide ((acc.length : Int) < nn) = false := decide_eq_false k2
        have hput := Lib.hid (putRoot_calls A6 c6 acc wr hc6 (by omega) HE.out)
        have hend := Lib.hid (show G = some (acc, s) by rw [HGj.out, Hf.out]; exact getRF_end _ _ _ _ (fun h => k2 h.1))
        cases hdr : root acc with
        | error k =>
          rw [hdr] at hput
          have hfin := Lib.hid (show O = none by rw [HO.out, hend.out]; exact finR_err _ _ _ _ hdr)
          rcases root_err acc k hdr with rfl | rfl
          all_goals (
            clear hdr
            simp only [told] at hput
            go_wp2_with fail
            refine hput.out.mono ?_; rintro e wa ⟨v, rfl, ho, hba⟩
            obtain ⟨Ab, cb, rfl, hcb, hrb⟩ := ho.slice
            have HBa := Lib.hid (below_step HX.out.below hba)
            clear hba ho hcb hrb
            go_wp2
            go_ret2
            rw [hfin.out]
            exact ⟨rfl, HBa.out⟩)
        | ok b =>
          rw [hdr] at hput
          have hfin := Lib.hid (show O = if b = X ∧ s.2 = false then some acc else none by rw [HO.out, hend.out]; exact finR_ok _ _ _ _ hdr)
          have HBb := Lib.hid (root_bytes acc b (by omega) hdr)
          clear hdr
          simp only [told] at hput
          go_wp2_with fail
          refine hput.out.mono ?_; rintro e wa ⟨v, rfl, ho, hba⟩
          obtain ⟨Ab, cb, rfl, hcb, hrb⟩ := ho.slice
          have HXa := Lib.hid (HX.out.under hba)
          have HRa := Lib.hid (Kd.R_below HR.out hba)
          have Hrb := Lib.hid hrb
          have Hcb := Lib.hid hcb
          have HErr := Lib.hid (BQ.err_calls g s.1 s.2 _ HXa.out.rdr)
          have hcc := blk_cell HXa.out.cell 0
          simp only [List.getElem?_toArray, List.getElem?_cons_succ, List.getElem?_cons_zero] at hcc
          clear hba ho hrb hcb
          cases hs2 : s.2 with
          | true =>
            have hfin2 := Lib.hid (show O = none by rw [hfin.out, hs2]; simp)
            rw [hs2] at HErr
            clear hs2
            go_wp2_with fail
            refine HErr.out.mono ?_; rintro e wb ⟨rfl, ⟨nb, rfl⟩⟩
            clear hcc
            go_wp2
            go_ret2
            rw [hfin2.out]
            exact ⟨rfl, pw_below_drewN HXa.out.below _⟩
          | false =>
            rw [hs2] at HErr
            have hfin2 := Lib.hid (show O = if b = X then some acc else none by rw [hfin.out, hs2]; simp)
            clear hs2
            go_wp2_with fail
            refine HErr.out.mono ?_; rintro e wb ⟨rfl, ⟨nb, rfl⟩⟩
            clear hcc
            go_wp2_with fail
            refine (equal_calls Ab A cb c b X _ (Hrb.out.below (pw_below_drewN (Below.refl _ _) _)) Hcb.out (HR0.out.below (pw_below_drewN HXa.out.below _)) HC.out HBb.out HB.out).mono ?_; rintro e wc ⟨rfl, ⟨nc, rfl⟩⟩
            by_cases hbx : b = X
            · have hd9 : decide (b = X) = true := decide_eq_true hbx
              have hfin3 := Lib.hid (show O = some acc by rw [hfin2.out, if_pos hbx])
              clear hbx
              go_wp2
              go_ret2
              rw [hfin3.out]
              exact ⟨⟨_, rfl, Kd.R_mono (Kd.R_below HRa.out (pw_below_drewN (Below.refl _ _) _)) (fun _ _ => trivial)⟩, pw_below_drewN HXa.out.below _⟩
            · have hd9 : decide (b = X) = false := decide_eq_false hbx
              have hfin3 := Lib.hid (show O = none by rw [hfin2.out, if_neg hbx])
              clear hbx
              go_wp2
              go_ret2
              rw [hfin3.out]
              exact ⟨rfl, pw_below_drewN HXa.out.below _⟩
      · have hd1 : decide ((0 : Int) < nn) = true := decide_eq_true k1
        have hd2 : decide ((acc.length : Int) < nn) = true := decide_eq_true k2
        have HErr0 := Lib.hid (BQ.err_calls g s.1 s.2 wr HX.out.rdr)
        rw [k3] at HErr0
        have hcc0 := HX.out.ptr
        have K3 := Lib.hid k3
        clear k3
        go_wp2_with fail
        refine HErr0.out.mono ?_; rintro e w3 ⟨rfl, ⟨n3, rfl⟩⟩
        clear hcc0
        have HX3 := Lib.hid (HX.out.under (pw_below_drewN (Below.refl _ _) n3))
        have HR3 := Lib.hid (Kd.R_below HR.out (pw_below_drewN (Below.refl _ _) n3))
        have HE3 := Lib.hid (Kd.C_below HE.out (pw_below_drewN (Below.refl _ _) n3))
        have hput := Lib.hid (putRoot_calls A6 c6 acc (wr.drewN n3) hc6 (by omega) HE3.out)
        have hend := Lib.hid (show G = some (acc, s) by rw [HGj.out, Hf.out]; exact getRF_end _ _ _ _ (fun h => by rw [K3.out] at h; exact absurd h.2 (by simp)))
        cases hdr : root acc with
        | error k =>
          rw [hdr] at hput
          have hfin := Lib.hid (show O = none by rw [HO.out, hend.out]; exact finR_err _ _ _ _ hdr)
          rcases root_err acc k hdr with rfl | rfl
          all_goals (
            clear hdr
            simp only [told] at hput
            go_wp2_with fail
            refine hput.out.mono ?_; rintro e wa ⟨v, rfl, ho, hba⟩
            obtain ⟨Ab, cb, rfl, hcb, hrb⟩ := ho.slice
            have HBa := Lib.hid (below_step HX3.out.below hba)
            clear hba ho hcb hrb
            go_wp2
            go_ret2
            rw [hfin.out]
            exact ⟨rfl, HBa.out⟩)
        | ok b =>
          rw [hdr] at hput
          have hfin := Lib.hid (show O = if b = X ∧ s.2 = false then some acc else none by rw [HO.out, hend.out]; exact finR_ok _ _ _ _ hdr)
          have HBb := Lib.hid (root_bytes acc b (by omega) hdr)
          clear hdr
          simp only [told] at hput
          go_wp2_with fail
          refine hput.out.mono ?_; rintro e wa ⟨v, rfl, ho, hba⟩
          obtain ⟨Ab, cb, rfl, hcb, hrb⟩ := ho.slice
          have HXa := Lib.hid (HX3.out.under hba)
          have HRa := Lib.hid (Kd.R_below HR3.out hba)
          have Hrb := Lib.hid hrb
          have Hcb := Lib.hid hcb
          have HErr := Lib.hid (BQ.err_calls g s.1 s.2 _ HXa.out.rdr)
          have hcc := blk_cell HXa.out.cell 0
          simp only [List.getElem?_toArray, List.getElem?_cons_succ, List.getElem?_cons_zero] at hcc
          clear hba ho hrb hcb
          cases hs2 : s.2 with
          | true =>
            have hfin2 := Lib.hid (show O = none by rw [hfin.out, hs2]; simp)
            rw [hs2] at HErr
            clear hs2
            go_wp2_with fail
            refine HErr.out.mono ?_; rintro e wb ⟨rfl, ⟨nb, rfl⟩⟩
            clear hcc
            go_wp2
            go_ret2
            rw [hfin2.out]
            exact ⟨rfl, pw_below_drewN HXa.out.below _⟩
          | false =>
            rw [hs2] at HErr
            have hfin2 := Lib.hid (show O = if b = X then some acc else none by rw [hfin.out, hs2]; simp)
            clear hs2
            go_wp2_with fail
            refine HErr.out.mono ?_; rintro e wb ⟨rfl, ⟨nb, rfl⟩⟩
            clear hcc
            go_wp2_with fail
            refine (equal_calls Ab A cb c b X _ (Hrb.out.below (pw_below_drewN (Below.refl _ _) _)) Hcb.out (HR0.out.below (pw_below_drewN HXa.out.below _)) HC.out HBb.out HB.out).mono ?_; rintro e wc ⟨rfl, ⟨nc, rfl⟩⟩
            by_cases hbx : b = X
            · have hd9 : decide (b = X) = true := decide_eq_true hbx
              have hfin3 := Lib.hid (show O = some acc by rw [hfin2.out, if_pos hbx])
              clear hbx
              go_wp2
              go_ret2
              rw [hfin3.out]
              exact ⟨⟨_, rfl, Kd.R_mono (Kd.R_below HRa.out (pw_below_drewN (Below.refl _ _) _)) (fun _ _ => trivial)⟩, pw_below_drewN HXa.out.below _⟩
            · have hd9 : decide (b = X) = false := decide_eq_false hbx
              have hfin3 := Lib.hid (show O = none by rw [hfin2.out, if_neg hbx])
              clear hbx
              go_wp2
              go_ret2
              rw [hfin3.out]
              exact ⟨rfl, pw_below_drewN HXa.out.below _⟩
end Go.Proofs.Ytijjecnmdhefbaa.RG

namespace Go.Proofs.Ytijjecnmdhefbaa.RG
open Go.RowKit Go.Proofs.YtijjecnmdhefbaaW.PrintWords Go.Proofs.YtijjecnmdhefbaaW.PrintLast Go.Proofs.YtijjecnmdhefbaaW.PrintMore Go.Proofs.Ytijjecnmdhefbaa.CD Go.Proofs.Ytijjecnmdhefbaa.BR Go.Proofs.Ytijjecnmdhefbaa.BP
set_option linter.unusedVariables false
set_option linter.unusedSimpArgs false
abbrev bw (W : World) (t : ByteArray) : World := Lib.bytesWorld W 5 t
theorem bytes_run (t : ByteArray) (W : World) : (convert 9 34 (.string t)).run Try.prog W = .ok (.slice (some ⟨W.heap.size, 0, none⟩) t.size (grownCap W t.size 0 5)) (bw W t) := print_bytes (P := Try.prog) 9 34 5 Try.underlying9 Try.underlying34 Try.underlying5 t W
theorem bw_below (W : World) (t : ByteArray) : Below W.heap.size W (bw W t) := bytes_below (Below.refl _ _) (Nat.le_refl _) 5 t
theorem bw_reads (W : World) (t : ByteArray) (ht : t.size ≤ 9223372036854775807) : ReadsInt (bw W t) .u8 (some ⟨W.heap.size, 0, none⟩) (bytesOf t).length (bytesOf t) := by
  rw [bytesOf_length]; exact bytes_reads W 5 t ht
def errOf (o : Option (List Ent)) : Int := match o with | some _ => 0 | none => 4
/-- A get's answer, by its list (none's is empty) and its error. -/
theorem got_two {o : Option (List Ent)} {t : Nat} {w w' : World} {e : Ending} (h : Got t o w e w') : ∃ v, e = .returned (.tuple #[v, .int .i64 (errOf o)]) ∧ Kd.R kE t w' w.heap.size (fun _ => True) v (o.getD []) ∧ Below w.heap.size w w' := by
  obtain ⟨h1, h2⟩ := h
  cases o with
  | none => exact ⟨_, h1, Kd.R_nil _ _ _ _ _, h2⟩
  | some l => obtain ⟨v, he, hR⟩ := h1; exact ⟨v, he, hR, h2⟩
end Go.Proofs.Ytijjecnmdhefbaa.RG

namespace Go.Proofs.Ytijjecnmdhefbaa.RG
open Go.ChangeShapes Go.WideShapes Go.RowKit Go.Proofs.YtijjecnmdhefbaaW.PrintWords Go.Proofs.YtijjecnmdhefbaaW.PrintLast Go.Proofs.YtijjecnmdhefbaaW.PrintMore Go.Proofs.Ytijjecnmdhefbaa.CD Go.Proofs.Ytijjecnmdhefbaa.BR Go.Proofs.Ytijjecnmdhefbaa.BP
set_option linter.unusedVariables false
set_option linter.unusedSimpArgs false
theorem dirF_ok {was : Int} {x : Ent} {l : List Ent} {b : List Int} (h : dirF was (x :: l) = .ok b) : was < x.1 ∧ ∃ c, dirF x.1 l = .ok c := by
  unfold dirF at h
  split at h
  · cases h
  · split at h
    · cases h
    · cases hd : dirF x.1 l with
      | error e => rw [hd] at h; cases h
      | ok c => exact ⟨by omega, c, rfl⟩
theorem dirF_order : ∀ (l : List Ent) (was : Int) (b : List Int), dirF was l = .ok b → ∀ k, k + 1 < l.length → (l.getD k E0).1 < (l.getD (k + 1) E0).1
  | [], _, _, _, k, hk => by simp at hk
  | x :: l, was, b, h, k, hk => by
    obtain ⟨_, c, hc⟩ := dirF_ok h
    cases k with
    | zero =>
      cases l with
      | nil => simp at hk
      | cons y l => exact (dirF_ok hc).1
    | succ k => exact dirF_order l x.1 c hc k (by simpa using hk)
theorem getDir_order (X : List Int) (l : List Ent) (h : getDir X = some l) : dir l = .ok X := by
  unfold getDir at h
  cases hg : getD0 X with
  | none => rw [hg] at h; cases h
  | some q =>
    obtain ⟨l', s⟩ := q
    rw [hg] at h
    cases hd : dir l' with
    | error k => rw [fin_err _ _ _ _ hd] at h; cases h
    | ok b =>
      rw [fin_ok _ _ _ _ hd] at h
      split at h
      · rename_i hb; injection h with h; rw [← h, hd, hb.1]
      · cases h
theorem dir_order (l : List Ent) (b : List Int) (h : dir l = .ok b) (k : Nat) (hk : k + 1 < l.length) : (l.getD k E0).1 < (l.getD (k + 1) E0).1 := by
  unfold dir at h
  cases hd : dirF (-1) l with
  | error e => rw [hd] at h; cases h
  | ok c => exact dirF_order l _ c hd k hk
theorem rootF_ok {was : Option Ent} {x : Ent} {l : List Ent} {b : List Int} (h : rootF was (x :: l) = .ok b) : late was x = false ∧ ∃ c, rootF (some x) l = .ok c := by
  cases h1 : rMay x with
  | false => rw [rootF_may _ _ _ h1] at h; cases h
  | true =>
    cases h2 : late was x with
    | true => rw [rootF_late _ _ _ h1 h2] at h; cases h
    | false =>
      rw [rootF_step _ _ _ h1 h2] at h
      cases hd : rootF (some x) l with
      | error e => rw [hd] at h; cases h
      | ok c => exact ⟨rfl, c, rfl⟩
theorem rootF_order : ∀ (l : List Ent) (was : Option Ent) (b : List Int), rootF was l = .ok b → ∀ k, k + 1 < l.length → late (some (l.getD k E0)) (l.getD (k + 1) E0) = false
  | [], _, _, _, k, hk => by simp at hk
  | x :: l, was, b, h, k, hk => by
    obtain ⟨_, c, hc⟩ := rootF_ok h
    cases k with
    | zero =>
      cases l with
      | nil => simp at hk
      | cons y l => exact (rootF_ok hc).1
    | succ k => exact rootF_order l (some x) c hc k (by simpa using hk)
theorem getRoot_order (X : List Int) (l : List Ent) (h : getRoot X = some l) : root l = .ok X := by
  unfold getRoot at h
  cases hg : getR0 X with
  | none => rw [hg] at h; cases h
  | some q =>
    obtain ⟨l', s⟩ := q
    rw [hg] at h
    cases hd : root l' with
    | error k => rw [finR_err _ _ _ _ hd] at h; cases h
    | ok b =>
      rw [finR_ok _ _ _ _ hd] at h
      split at h
      · rename_i hb; injection h with h; rw [← h, hd, hb.1]
      · cases h
theorem root_order (l : List Ent) (b : List Int) (h : root l = .ok b) (k : Nat) (hk : k + 1 < l.length) : late (some (l.getD k E0)) (l.getD (k + 1) E0) = false := by
  unfold root at h
  cases hd : rootF none l with
  | error e => rw [hd] at h; cases h
  | ok c => exact rootF_order l _ c hd k hk
/-- Any get of a string's bytes. -/
theorem strget {F : Nat} {t : Nat} {o : Option (List Ent)} (s : ByteArray) (W : World) (h : Calls Try.prog F #[.slice (some ⟨W.heap.size, 0, none⟩) (bytesOf s).length (grownCap W s.size 0 5)] (bw W s) fun e w' => Got t o (bw W s) e w') :
    Calls Try.prog F #[.slice (some ⟨W.heap.size, 0, none⟩) s.size (grownCap W s.size 0 5)] (bw W s) fun e w' => Got t o W e w' := by
  rw [bytesOf_length] at h
  refine h.mono ?_
  rintro e w' ⟨h1, h2⟩
  refine ⟨?_, below_step (bw_below W s) h2⟩
  cases o with
  | none => exact h1
  | some l => obtain ⟨v, he, hR⟩ := h1; exact ⟨v, he, Kd.R_lower hR (bw_below W s).size⟩
theorem dirstr (s : ByteArray) (W : World) (hs : s.size ≤ 100000) : Calls Try.prog 16 #[.slice (some ⟨W.heap.size, 0, none⟩) s.size (grownCap W s.size 0 5)] (bw W s) fun e w' => Got 49 (getDir (bytesOf s)) W e w' :=
  strget s W (get_region _ _ (bytesOf s) (bw W s) (bw_reads W s (by omega)) (by rw [bytesOf_length]; exact grownCap_ge _ _ _ _) (BS.bytes_bytesOf s) (by rw [bytesOf_length]; omega))
theorem rootstr (s : ByteArray) (W : World) (hs : s.size ≤ 100000) : Calls Try.prog 21 #[.slice (some ⟨W.heap.size, 0, none⟩) s.size (grownCap W s.size 0 5)] (bw W s) fun e w' => Got 51 (getRoot (bytesOf s)) W e w' :=
  strget s W (getroot_region _ _ (bytesOf s) (bw W s) (bw_reads W s (by omega)) (by rw [bytesOf_length]; exact grownCap_ge _ _ _ _) (BS.bytes_bytesOf s) (by rw [bytesOf_length]; omega))
theorem errOf_two (o : Option (List Ent)) : (errOf o = 0 ∧ ∃ l, o = some l) ∨ (errOf o = 4 ∧ o = none) := by
  cases o with
  | none => exact .inr ⟨rfl, rfl⟩
  | some l => exact .inl ⟨rfl, l, rfl⟩
end Go.Proofs.Ytijjecnmdhefbaa.RG

namespace Go.Proofs.Ytijjecnmdhefbaa.RG
open Go.RowKit Go.Proofs.Ytijjecnmdhefbaa.CD Go.Proofs.Ytijjecnmdhefbaa.BR
set_option linter.unusedVariables false
set_option linter.unusedSimpArgs false
theorem rNum_num (n : Nat) (rest : List Int) (h : n < 18446744073709551616) : rNum (num n ++ rest, false) = (n, (rest, false)) := by
  unfold rNum
  have hp := num_pos n
  simp only [Bool.false_eq_true, if_false]
  rw [dec_num n rest h]
  simp only
  rw [if_neg (by omega), List.drop_left]
theorem rNext_num (z : Int) (rest : List Int) (h : 0 ≤ z ∧ z ≤ 4611686018427387904) : rNext (num z.toNat ++ rest, false) = (z, (rest, false)) := by
  unfold rNext
  rw [rNum_num _ _ (by omega)]
  simp only
  rw [if_neg (by omega), Int.toNat_of_nonneg h.1]
theorem rInt_num (i : Int) (rest : List Int) (h : -9223372036854775808 ≤ i ∧ i < 9223372036854775808) : rInt' (num (zig i) ++ rest, false) = (i, (rest, false)) := by
  unfold rInt'
  rw [rNum_num _ _ (zig_lt i h), zag_zig]
theorem nums4_at (was : Int) (x : Ent) (rest : List Int) : nums4 (eNums was x) ++ rest = num (x.1 - was - 1).toNat ++ (num x.2.1.toNat ++ (num x.2.2.1.toNat ++ (num x.2.2.2.toNat ++ rest))) := by
  unfold nums4 eNums
  simp [List.append_assoc]
theorem getF_dirF : ∀ (l : List Ent) (was : Int) (c : List Int) (f : Nat) (acc : List Ent), dirF was l = .ok c → -1 ≤ was → l.length < f → getF f ((acc.length + l.length : Nat) : Int) (c, false) was acc = some (acc ++ l, ([], false))
  | [], was, c, f, acc, h, hw, hf => by
    obtain ⟨f, rfl⟩ : ∃ m, f = m + 1 := ⟨f - 1, by omega⟩
    simp [dirF] at h
    rw [getF_end _ _ _ _ _ (by simp), h]
    simp
  | x :: l, was, c, f, acc, h, hw, hf => by
    obtain ⟨f, rfl⟩ : ∃ m, f = m + 1 := ⟨f - 1, by omega⟩
    cases h1 : eMay x with
    | false => unfold dirF at h; rw [h1, if_pos rfl] at h; cases h
    | true =>
      by_cases h2 : x.1 ≤ was
      · unfold dirF at h; rw [h1, if_neg (by simp), if_pos h2] at h; cases h
      · rw [dirF_step _ _ _ h1 h2] at h
        have hm := h1
        unfold eMay at hm
        have hm := of_decide_eq_true hm
        cases hd : dirF x.1 l with
        | error e => rw [hd] at h; cases h
        | ok c' =>
          rw [hd] at h
          injection h with h
          have h : c = nums4 (eNums was x) ++ c' := h.symm
          have hre : rEntry was (c, false) = (x.1 - was - 1, x, (c', false)) := by
            unfold rEntry
            rw [h, nums4_at, rNext_num _ _ (by omega)]
            simp only
            rw [rNext_num _ _ (by omega)]
            simp only
            rw [rNext_num _ _ (by omega)]
            simp only
            rw [rNext_num _ _ (by omega)]
            simp only
            have e : was + (1 + (x.1 - was - 1)) = x.1 := by omega
            rw [e]
          rw [getF_some _ _ _ _ _ ⟨by simp only [List.length_cons]; omega, rfl⟩ (by rw [hre]; simp only; omega) (by rw [hre]; exact h1), hre]
          simp only
          have ih := getF_dirF l x.1 c' f (acc ++ [x]) hd (by omega) (by simp only [List.length_cons] at hf; omega)
          have e : (acc ++ [x]).length + l.length = acc.length + (x :: l).length := by simp only [List.length_append, List.length_cons, List.length_nil]; omega
          rw [List.append_assoc, e] at ih
          exact ih
theorem getDir_put (l : List Ent) (b : List Int) (h : dir l = .ok b) (hl : l.length ≤ 1000) : getDir b = some l := by
  have h0 := h
  unfold dir at h
  cases hd : dirF (-1) l with
  | error e => rw [hd] at h; cases h
  | ok c =>
    rw [hd] at h
    injection h with h
    have h : b = num l.length ++ c := h.symm
    have hn : rNext (b, false) = ((l.length : Int), (c, false)) := by
      rw [h]
      have := rNext_num (l.length : Int) c (by omega)
      rw [Int.toNat_natCast] at this
      exact this
    unfold getDir getD0
    rw [hn]
    simp only
    have hg := getF_dirF l (-1) c 1025 [] hd (by omega) (by omega)
    simp only [List.length_nil, Nat.zero_add, List.nil_append] at hg
    rw [hg, fin_ok _ _ _ _ h0, if_pos ⟨rfl, rfl⟩]
theorem rNums_at (x : Ent) (rest : List Int) : rNums x ++ rest = num (zig x.1) ++ (num (zig x.2.1) ++ (num x.2.2.1.toNat ++ (num x.2.2.2.toNat ++ rest))) := by
  unfold rNums
  simp [List.append_assoc]
theorem getRF_rootF : ∀ (l : List Ent) (was : Option Ent) (c : List Int) (f : Nat) (acc : List Ent), rootF was l = .ok c → l.length < f → getRF f ((acc.length + l.length : Nat) : Int) (c, false) acc = some (acc ++ l, ([], false))
  | [], was, c, f, acc, h, hf => by
    obtain ⟨f, rfl⟩ : ∃ m, f = m + 1 := ⟨f - 1, by omega⟩
    simp [rootF] at h
    rw [getRF_end _ _ _ _ (by simp), h]
    simp
  | x :: l, was, c, f, acc, h, hf => by
    obtain ⟨f, rfl⟩ : ∃ m, f = m + 1 := ⟨f - 1, by omega⟩
    cases h1 : rMay x with
    | false => rw [rootF_may _ _ _ h1] at h; cases h
    | true =>
      cases h2 : late was x with
      | true => rw [rootF_late _ _ _ h1 h2] at h; cases h
      | false =>
        rw [rootF_step _ _ _ h1 h2] at h
        have hm := rMay_of h1
        cases hd : rootF (some x) l with
        | error e => rw [hd] at h; cases h
        | ok c' =>
          rw [hd] at h
          injection h with h
          have h : c = rNums x ++ c' := h.symm
          have hre : rRegion (c, false) = (x, (c', false)) := by
            unfold rRegion
            rw [h, rNums_at, rInt_num _ _ (by omega)]
            simp only
            rw [rInt_num _ _ (by omega)]
            simp only
            rw [rNext_num _ _ (by omega)]
            simp only
            rw [rNext_num _ _ (by omega)]
          rw [getRF_some _ _ _ _ ⟨by simp only [List.length_cons]; omega, rfl⟩ (by rw [hre]; exact h1), hre]
          simp only
          have ih := getRF_rootF l (some x) c' f (acc ++ [x]) hd (by simp only [List.length_cons] at hf; omega)
          have e : (acc ++ [x]).length + l.length = acc.length + (x :: l).length := by simp only [List.length_append, List.length_cons, List.length_nil]; omega
          rw [List.append_assoc, e] at ih
          exact ih
theorem rootF_long : ∀ (l : List Ent) (was : Option Ent) (c : List Int), rootF was l = .ok c → l.length ≤ c.length
  | [], _, _, _ => by simp
  | x :: l, was, c, h => by
    cases h1 : rMay x with
    | false => rw [rootF_may _ _ _ h1] at h; cases h
    | true =>
      cases h2 : late was x with
      | true => rw [rootF_late _ _ _ h1 h2] at h; cases h
      | false =>
        rw [rootF_step _ _ _ h1 h2] at h
        cases hd : rootF (some x) l with
        | error e => rw [hd] at h; cases h
        | ok c' =>
          rw [hd] at h
          injection h with h
          have h : c = rNums x ++ c' := h.symm
          have := rootF_long l _ c' hd
          have hp := num_pos (zig x.1)
          rw [h]
          unfold rNums
          simp only [List.length_append, List.length_cons]
          omega
theorem getRoot_put (l : List Ent) (b : List Int) (h : root l = .ok b) (hl : l.length ≤ 100000) : getRoot b = some l := by
  have h0 := h
  unfold root at h
  cases hd : rootF none l with
  | error e => rw [hd] at h; cases h
  | ok c =>
    rw [hd] at h
    injection h with h
    have h : b = num l.length ++ c := h.symm
    have hn : rNext (b, false) = ((l.length : Int), (c, false)) := by
      rw [h]
      have := rNext_num (l.length : Int) c (by omega)
      rw [Int.toNat_natCast] at this
      exact this
    have hlong := rootF_long l none c hd
    unfold getRoot getR0
    rw [hn]
    simp only
    have hg := getRF_rootF l none c (b.length + 2) [] hd (by rw [h, List.length_append]; omega)
    simp only [List.length_nil, Nat.zero_add, List.nil_append] at hg
    rw [hg, finR_ok _ _ _ _ h0, if_pos ⟨rfl, rfl⟩]
end Go.Proofs.Ytijjecnmdhefbaa.RG

namespace Go.Proofs.Ytijjecnmdhefbaa.RG
open Go.RowKit Go.Proofs.YtijjecnmdhefbaaW.PrintWords Go.Proofs.YtijjecnmdhefbaaW.PrintLast Go.Proofs.YtijjecnmdhefbaaW.PrintMore Go.Proofs.Ytijjecnmdhefbaa.CD Go.Proofs.Ytijjecnmdhefbaa.BR Go.Proofs.Ytijjecnmdhefbaa.BP
set_option linter.unusedVariables false
set_option linter.unusedSimpArgs false
def two : List Ent := [(3, 9, 100, 0), (5, 10, 7, 300)]
def twoB : List Int := [2, 3, 9, 100, 0, 1, 10, 7, 172, 2]
theorem two_dir : dir two = .ok twoB := by kernel_rfl
theorem two_ents (w : World) : Ents (w.alloc (.cells #[.int .i64 3, .int .i64 9, .int .i64 100, .int .i64 0, .int .i64 5, .int .i64 10, .int .i64 7, .int .i64 300] 49)) (some ⟨w.heap.size, 0, none⟩) 2 two := by
  refine ⟨rfl, fun j hj => ⟨_, rfl, ?_⟩⟩
  have Hb := blk_new w (.cells #[.int .i64 3, .int .i64 9, .int .i64 100, .int .i64 0, .int .i64 5, .int .i64 10, .int .i64 7, .int .i64 300] 49)
  rcases (by omega : j = 0 ∨ j = 1) with rfl | rfl
  · exact ⟨blk_cell Hb 0, blk_cell Hb 1, blk_cell Hb 2, blk_cell Hb 3⟩
  · exact ⟨blk_cell Hb 4, blk_cell Hb 5, blk_cell Hb 6, blk_cell Hb 7⟩
theorem hcv24 {A : Option Addr} {c : Nat} {l : List Int} {W : World} (hr : ReadsInt W .u8 A l.length l) : (convert 34 9 (.slice A l.length c)).run Try.prog W = .ok (.string (strOfNums l)) W :=
  string_of_reads (c := c) (src := 34) Try.underlying34 Try.underlying5 Try.underlying9 hr
set_option maxHeartbeats 1000000 in
set_option maxRecDepth 100000 in
theorem works24 (w : World) : Calls Try.prog 13 #[] w fun e w' => e = .returned (.bool true) ∧ Below w.heap.size w w' := by
  have HE := Lib.hid two_ents
  have hdir := Lib.hid two_dir
  obtain ⟨L, hL⟩ : ∃ L, L = twoB := ⟨_, rfl⟩
  have ET : Hid (((strOfNums L).toList == ([2, 3, 9, 100, 0, 1, 10, 7, 172, 2] : List UInt8)) = true) := Lib.hid (by rw [hL]; decide +kernel)
  rw [← hL] at hdir
  clear hL
  go_enter Try.func13, Try.ntmps13
  go_wp2_with fail
  refine (put_region _ 2 _ two _ (Nat.le_refl _) (by omega) (HE.out _)).mono ?_
  rintro e w1 ⟨hd, hb⟩
  rw [hdir.out] at hd
  obtain ⟨v, rfl, ho⟩ := hd
  obtain ⟨A1, c1, rfl, hc1, hr1⟩ := ho.slice
  have HB1 := Lib.hid (below_step (below_alloc (Below.refl _ _) _) hb)
  have kz := hcv24 (c := c1) hr1
  have eT := ET.out
  clear hb ho hc1 hr1
  go_wp2
  go_ret
  exact ⟨rfl, HB1.out⟩
end Go.Proofs.Ytijjecnmdhefbaa.RG
