/- The own texts that the statement RunsGet leans on: Codec, CodecF, BRdr, BRdr2, RunsP, RunsG, Each, BStr, BPut, BOwn, RunsW, Rep, QRdr. -/
import Derived.RowKit
import Derived.Laws.BitsLemmas
import Derived.Test.YtijdjpcmndjbcaaPRunsGetx1
import Derived.Lib.Hide
import Derived.Test.YtijdjpcmndjbcaaChecked
import Derived.RangeFuncNested
import Derived.RangeFuncBound
import Derived.RangeFuncCalls
import Derived.RangeFuncLeaves
import Derived.Shelf.Abstract
import Derived.Shelf.RegionOpen
import Derived.WalkKit
import Derived.OwnWalkIn
import Derived.TacticsInMore
import Derived.LoopNIn
import Derived.LoopIn
import Derived.RangeFuncFrom
import Derived.Lib.SlBuf
import Derived.Lib.MakeNoZero
import Derived.Laws.CopyOwn
import Derived.Laws.Entries
import Derived.Outline
namespace Go.Proofs.Ytijdjpcmndjbcaa.CD
set_option linter.unusedVariables false
set_option linter.unusedSimpArgs false

/-- All are bytes. -/
def Bytes (l : List Int) : Prop := ∀ x ∈ l, 0 ≤ x ∧ x < 256
theorem Bytes.nil : Bytes [] := fun _ h => by cases h
theorem Bytes.cons {c : Int} {l : List Int} (h : Bytes (c :: l)) : (0 ≤ c ∧ c < 256) ∧ Bytes l := ⟨h c (by simp), fun x hx => h x (by simp [hx])⟩
theorem Bytes.mk {c : Int} {l : List Int} (hc : 0 ≤ c ∧ c < 256) (h : Bytes l) : Bytes (c :: l) := fun x hx => by
  rcases List.mem_cons.1 hx with rfl | hx
  · exact hc
  · exact h x hx
theorem Bytes.append {l m : List Int} (h : Bytes l) (k : Bytes m) : Bytes (l ++ m) := fun x hx => by
  rcases List.mem_append.1 hx with hx | hx
  · exact h x hx
  · exact k x hx
theorem Bytes.left {l m : List Int} (h : Bytes (l ++ m)) : Bytes l := fun x hx => h x (List.mem_append_left _ hx)
theorem Bytes.right {l m : List Int} (h : Bytes (l ++ m)) : Bytes m := fun x hx => h x (List.mem_append_right _ hx)
theorem Bytes.drop {l : List Int} (h : Bytes l) (n : Nat) : Bytes (l.drop n) := fun x hx => h x (List.mem_of_mem_drop hx)
theorem Bytes.take {l : List Int} (h : Bytes l) (n : Nat) : Bytes (l.take n) := fun x hx => h x (List.mem_of_mem_take hx)

/-- A number's bytes, k more groups allowed behind the first. -/
def numF : Nat → Nat → List Int
  | 0, n => [(n : Int)]
  | k + 1, n => if n < 128 then [(n : Int)] else ((n % 128 + 128 : Nat) : Int) :: numF k (n / 128)
def num (n : Nat) : List Int := numF 9 n
/-- The number with whose bytes a list begins from group i on, acc being what is there already; how many bytes. -/
def decF : Nat → Nat → List Int → Nat × Nat
  | _, _, [] => (0, 0)
  | i, acc, c :: l => if (i = 9 ∧ c > 1) ∨ (i > 0 ∧ c = 0) then (0, 0) else if c < 128 then (acc + c.toNat * 128 ^ i, i + 1) else decF (i + 1) (acc + c.toNat % 128 * 128 ^ i) l
def dec (l : List Int) : Nat × Nat := decF 0 0 l

theorem numF_pos (k n : Nat) : 1 ≤ (numF k n).length := by cases k <;> simp [numF]; split <;> simp
theorem numF_le : ∀ (k n : Nat), (numF k n).length ≤ k + 1
  | 0, n => by simp [numF]
  | k + 1, n => by
    simp only [numF]
    split
    · simp
    · simp only [List.length_cons]
      have := numF_le k (n / 128)
      omega
theorem numF_small (k n : Nat) (h : n < 128) : numF k n = [(n : Int)] := by cases k <;> simp [numF, h]
theorem numF_big (k n : Nat) (h : 128 ≤ n) : numF (k + 1) n = ((n % 128 + 128 : Nat) : Int) :: numF k (n / 128) := by simp [numF, Nat.not_lt.2 h]
theorem pow_step (i : Nat) : 128 ^ (i + 1) = 128 * 128 ^ i := by rw [Nat.pow_succ, Nat.mul_comm]
theorem split_group (n p : Nat) : n % 128 * p + n / 128 * (128 * p) = n * p := by
  have h : n = 128 * (n / 128) + n % 128 := by omega
  calc n % 128 * p + n / 128 * (128 * p) = (128 * (n / 128) + n % 128) * p := by
        rw [Nat.add_mul, Nat.mul_comm 128 (n / 128), Nat.mul_assoc]; omega
    _ = n * p := by rw [← h]

theorem decF_num : ∀ (k i acc n : Nat) (rest : List Int), i + k = 9 → n * 128 ^ i < 18446744073709551616 → (0 < i → 0 < n) →
    decF i acc (numF k n ++ rest) = (acc + n * 128 ^ i, i + (numF k n).length)
  | 0, i, acc, n, rest, hi, hn, h0 => by
    obtain rfl : i = 9 := by omega
    have h1 : n ≤ 1 := by simp only [show (128 : Nat) ^ 9 = 9223372036854775808 by decide] at hn; omega
    have h2 := h0 (by omega)
    simp only [numF, List.cons_append, List.nil_append, decF]
    rw [if_neg (by omega), if_pos (by omega)]
    simp
  | k + 1, i, acc, n, rest, hi, hn, h0 => by
    by_cases h : n < 128
    · rw [numF_small _ _ h]
      simp only [List.cons_append, List.nil_append, decF]
      rw [if_neg (by omega), if_pos (by omega)]
      simp
    · rw [numF_big k n (by omega)]
      simp only [List.cons_append, decF]
      rw [if_neg (by omega), if_neg (by omega)]
      have e : ((((n % 128 + 128 : Nat) : Int)).toNat % 128) = n % 128 := by omega
      have hs := split_group n (128 ^ i)
      rw [e, decF_num k (i + 1) _ (n / 128) rest (by omega) (by rw [pow_step]; omega) (by omega), pow_step]
      simp only [List.length_cons, Prod.mk.injEq]
      omega
theorem dec_num (n : Nat) (rest : List Int) (hn : n < 18446744073709551616) : dec (num n ++ rest) = (n, (num n).length) := by
  unfold dec num
  rw [decF_num 9 0 0 n rest rfl (by simpa using hn) (by omega)]
  simp
theorem decF_back : ∀ (l : List Int) (i acc m k : Nat), Bytes l → i ≤ 9 → decF i acc l = (m, k) → k ≠ 0 →
    ∃ n rest, l = numF (9 - i) n ++ rest ∧ k = i + (numF (9 - i) n).length ∧ m = acc + n * 128 ^ i ∧ n * 128 ^ i < 18446744073709551616 ∧ (0 < i → 0 < n)
  | [], i, acc, m, k, hb, hi, h, hk => by
    simp only [decF, Prod.mk.injEq] at h
    omega
  | c :: l, i, acc, m, k, hb, hi, h, hk => by
    obtain ⟨hc, hl⟩ := hb.cons
    simp only [decF] at h
    by_cases h1 : (i = 9 ∧ c > 1) ∨ (i > 0 ∧ c = 0)
    · rw [if_pos h1] at h
      simp only [Prod.mk.injEq] at h
      omega
    · rw [if_neg h1] at h
      by_cases h2 : c < 128
      · rw [if_pos h2] at h
        simp only [Prod.mk.injEq] at h
        refine ⟨c.toNat, l, ?_, ?_, h.1.symm, ?_, by omega⟩
        · rw [numF_small _ _ (by omega), show ((c.toNat : Nat) : Int) = c by omega]
          rfl
        · rw [numF_small _ _ (by omega)]
          simp
          omega
        · by_cases h9 : i = 9
          · subst h9
            have : c.toNat ≤ 1 := by omega
            simp only [show (128 : Nat) ^ 9 = 9223372036854775808 by decide]
            omega
          · have h3 : 128 ^ i ≤ 128 ^ 8 := Nat.pow_le_pow_right (by decide) (by omega)
            have h4 : c.toNat * 128 ^ i ≤ 127 * 128 ^ 8 := Nat.mul_le_mul (by omega) h3
            simp only [show 127 * (128 : Nat) ^ 8 = 9151314442816847872 by decide] at h4
            omega
      · rw [if_neg h2] at h
        have h9 : i ≠ 9 := fun h9 => h1 (.inl ⟨h9, by omega⟩)
        obtain ⟨n, rest, e1, e2, e3, e4, e5⟩ := decF_back l (i + 1) _ m k hl (by omega) h hk
        have hn := e5 (by omega)
        have hs := split_group (128 * n + c.toNat % 128) (128 ^ i)
        have q1 : (128 * n + c.toNat % 128) % 128 = c.toNat % 128 := by omega
        have q2 : (128 * n + c.toNat % 128) / 128 = n := by omega
        rw [q1, q2] at hs
        rw [pow_step] at e3 e4
        refine ⟨128 * n + c.toNat % 128, rest, ?_, ?_, by omega, ?_, by omega⟩
        · rw [show 9 - i = (9 - (i + 1)) + 1 by omega, numF_big _ _ (by omega), q1, q2, e1, show ((c.toNat % 128 + 128 : Nat) : Int) = c by omega]
          rfl
        · rw [show 9 - i = (9 - (i + 1)) + 1 by omega, numF_big _ _ (by omega), q2, e2, List.length_cons]
          omega
        · -- what is added fits: all the lower groups together are below the next one's weight
          have h5 : n * (128 * 128 ^ i) + 127 * 128 ^ i < 18446744073709551616 := by
            have hi8 : i ≤ 8 := by omega
            have d : 18446744073709551616 = 2 * 128 ^ (8 - i) * (128 * 128 ^ i) := by
              have : 128 ^ (8 - i) * 128 ^ i = 128 ^ 8 := by rw [← Nat.pow_add]; congr 1; omega
              calc 18446744073709551616 = 2 * (128 * 128 ^ 8) := by decide
                _ = 2 * 128 ^ (8 - i) * (128 * 128 ^ i) := by rw [← this]; simp only [Nat.mul_assoc, Nat.mul_left_comm]
            have hp : 0 < 128 ^ i := Nat.pow_pos (by decide)
            rw [d] at e4
            have : n < 2 * 128 ^ (8 - i) := Nat.lt_of_mul_lt_mul_right e4
            have : (n + 1) * (128 * 128 ^ i) ≤ 2 * 128 ^ (8 - i) * (128 * 128 ^ i) := Nat.mul_le_mul_right _ this
            rw [← d, Nat.add_mul] at this
            omega
          have h6 : c.toNat % 128 * 128 ^ i ≤ 127 * 128 ^ i := Nat.mul_le_mul_right _ (by omega)
          omega
/-- What is read as a number is its bytes. -/
theorem dec_back (l : List Int) (hb : Bytes l) (m k : Nat) (h : dec l = (m, k)) (hk : k ≠ 0) : m < 18446744073709551616 ∧ k = (num m).length ∧ l = num m ++ l.drop k ∧ k ≤ l.length ∧ 1 ≤ k ∧ k ≤ 10 := by
  obtain ⟨n, rest, e1, e2, e3, e4, _⟩ := decF_back l 0 0 m k hb (by omega) h hk
  have hn : n = m := by rw [e3]; simp
  subst hn
  have h1 : k = (num n).length := by rw [e2]; simp [num]
  have h2 : l = num n ++ rest := e1
  refine ⟨by simpa using e4, h1, ?_, ?_, ?_, ?_⟩
  · rw [h1, h2, List.drop_left]
  · rw [h1, h2, List.length_append]; omega
  · rw [h1]; exact numF_pos _ _
  · rw [h1]; exact numF_le 9 n
theorem decF_none : ∀ (l : List Int) (i acc m : Nat), decF i acc l = (m, 0) → m = 0
  | [], i, acc, m, h => by simp only [decF, Prod.mk.injEq] at h; exact h.1.symm
  | c :: l, i, acc, m, h => by
    simp only [decF] at h
    split at h
    · simp only [Prod.mk.injEq] at h; exact h.1.symm
    · split at h
      · simp only [Prod.mk.injEq] at h; omega
      · exact decF_none l _ _ m h
theorem dec_none (l : List Int) (m : Nat) (h : dec l = (m, 0)) : m = 0 := decF_none l 0 0 m h
theorem num_pos (n : Nat) : 1 ≤ (num n).length := numF_pos 9 n
theorem num_le (n : Nat) : (num n).length ≤ 10 := numF_le 9 n
theorem numF_bytes : ∀ (k i n : Nat), i + k = 9 → n * 128 ^ i < 18446744073709551616 → Bytes (numF k n)
  | 0, i, n, hi, hn => by
    obtain rfl : i = 9 := by omega
    have h1 : n ≤ 1 := by simp only [show (128 : Nat) ^ 9 = 9223372036854775808 by decide] at hn; omega
    exact Bytes.mk (by omega) Bytes.nil
  | k + 1, i, n, hi, hn => by
    by_cases h : n < 128
    · rw [numF_small _ _ h]
      exact Bytes.mk (by omega) Bytes.nil
    · rw [numF_big k n (by omega)]
      have hs := split_group n (128 ^ i)
      exact Bytes.mk (by omega) (numF_bytes k (i + 1) (n / 128) (by omega) (by rw [pow_step]; omega))
theorem num_bytes (n : Nat) (hn : n < 18446744073709551616) : Bytes (num n) := numF_bytes 9 0 n rfl (by simpa using hn)
theorem num_inj (m n : Nat) (hm : m < 18446744073709551616) (hn : n < 18446744073709551616) (h : num m = num n) : m = n := by
  have h1 := dec_num m [] hm
  have h2 := dec_num n [] hn
  rw [h, h2] at h1
  exact (Prod.mk.inj h1).1.symm
/-- Cut off anywhere a number's bytes are none. -/
theorem dec_cut (n j : Nat) (hn : n < 18446744073709551616) (hj : j < (num n).length) : dec ((num n).take j) = (0, 0) := by
  cases h : dec ((num n).take j) with
  | mk m k =>
    by_cases hk : k = 0
    · subst hk
      rw [dec_none _ _ h]
    · obtain ⟨h1, h2, h3, h4, h5, h6⟩ := dec_back _ ((num_bytes n hn).take j) m k h hk
      have h7 : num n = num m ++ (((num n).take j).drop k ++ (num n).drop j) := by
        rw [← List.append_assoc, ← h3, List.take_append_drop]
      have h8 := dec_num m (((num n).take j).drop k ++ (num n).drop j) h1
      rw [← h7] at h8
      have h9 := dec_num n [] hn
      rw [List.append_nil, h8] at h9
      have := (Prod.mk.inj h9).2
      rw [List.length_take] at h4
      omega

/-- A number of a width. -/
def fixed : Nat → Nat → List Int
  | 0, _ => []
  | w + 1, n => ((n % 256 : Nat) : Int) :: fixed w (n / 256)
def unfixed : List Int → Nat
  | [] => 0
  | c :: l => c.toNat + 256 * unfixed l
theorem fixed_length : ∀ (w n : Nat), (fixed w n).length = w
  | 0, _ => rfl
  | w + 1, n => by simp [fixed, fixed_length w]
theorem fixed_bytes : ∀ (w n : Nat), Bytes (fixed w n)
  | 0, _ => Bytes.nil
  | w + 1, n => Bytes.mk (by omega) (fixed_bytes w _)
theorem fixed_unfixed : ∀ (l : List Int), Bytes l → fixed l.length (unfixed l) = l
  | [], _ => rfl
  | c :: l, h => by
    obtain ⟨hc, hl⟩ := h.cons
    simp only [List.length_cons, fixed, unfixed]
    rw [show (c.toNat + 256 * unfixed l) / 256 = unfixed l by omega, fixed_unfixed l hl, show (((c.toNat + 256 * unfixed l) % 256 : Nat) : Int) = c by omega]
theorem unfixed_fixed : ∀ (w n : Nat), unfixed (fixed w n) = n % 256 ^ w
  | 0, n => by simp [fixed, unfixed, Nat.mod_one]
  | w + 1, n => by
    simp only [fixed, unfixed]
    rw [unfixed_fixed w (n / 256), Nat.pow_succ, Nat.mul_comm (256 ^ w) 256, Nat.mod_mul]
    omega
theorem unfixed_lt : ∀ (l : List Int), Bytes l → unfixed l < 256 ^ l.length
  | [], _ => by simp [unfixed]
  | c :: l, h => by
    obtain ⟨hc, hl⟩ := h.cons
    have := unfixed_lt l hl
    simp only [unfixed, List.length_cons, Nat.pow_succ]
    omega

/-- A whole number as a number, and back. -/
def zig (i : Int) : Nat := if 0 ≤ i then (2 * i).toNat else (-2 * i - 1).toNat
def zag (n : Nat) : Int := if n % 2 = 0 then ((n / 2 : Nat) : Int) else -((n / 2 : Nat) : Int) - 1
theorem zag_zig (i : Int) : zag (zig i) = i := by
  unfold zag zig
  split <;> split <;> omega
theorem zig_zag (n : Nat) : zig (zag n) = n := by
  unfold zag zig
  split <;> split <;> omega
theorem zig_lt (i : Int) (h : -9223372036854775808 ≤ i ∧ i < 9223372036854775808) : zig i < 18446744073709551616 := by
  unfold zig
  split <;> omega
theorem zag_range (n : Nat) (h : n < 18446744073709551616) : -9223372036854775808 ≤ zag n ∧ zag n < 9223372036854775808 := by
  unfold zag
  split <;> omega
end Go.Proofs.Ytijdjpcmndjbcaa.CD

namespace Go.Proofs.Ytijdjpcmndjbcaa.CF
open Go.RowKit Go.Proofs.YtijdjpcmndjbcaaW.PrintWords Go.Proofs.YtijdjpcmndjbcaaW.PrintLast Go.Proofs.YtijdjpcmndjbcaaW.PrintMore Go.Proofs.Ytijdjpcmndjbcaa.CD
set_option linter.unusedVariables false
set_option linter.unusedSimpArgs false

theorem wu64 (n : Int) : IntKind.u64.wrap n = n % 18446744073709551616 := by simp [IntKind.wrap, IntKind.bits, IntKind.signed]
theorem wu64_id (n : Int) (h0 : 0 ≤ n) (h1 : n < 18446744073709551616) : IntKind.u64.wrap n = n := by rw [wu64]; omega
theorem or128 (x : Nat) : bits .or .u8 ((x : Int) % 256) 128 = ((x % 128 + 128 : Nat) : Int) := by
  have h : ∀ a : Fin 256, a.val ||| 128 = a.val % 128 + 128 := by decide +kernel
  have e : ((x : Int) % 256) = ((x % 256 : Nat) : Int) := by omega
  rw [e, show (128 : Int) = ((128 : Nat) : Int) from rfl, (bits_nat .u8 8 (by decide) wraps_u8 (x % 256) 128 (by omega) (by decide)).2, h ⟨x % 256, by omega⟩]
  show ((x % 256 % 128 + 128 : Nat) : Int) = _
  omega
theorem and127 (x : Nat) (hx : x < 256) : bits .and .u8 (x : Int) 127 = ((x % 128 : Nat) : Int) := by
  have := bits_mask .u8 8 (by decide) wraps_u8 7 (by decide) (x : Int) (by omega) (by omega)
  rw [show (2 : Int) ^ 7 - 1 = 127 by decide, show (2 : Int) ^ 7 = 128 by decide] at this
  rw [this]; omega
theorem put_l0 : ∀ (k j n : Nat) (x : List Int), n < 128 ^ (k + 1) → x.length + k < 140737488355328 → k < j → PRunsGet.bytes_Put.l0 j (n : Int) x = some (x ++ numF k n)
  | 0, j, n, x, hn, hx, hj => by
    obtain ⟨j, rfl⟩ : ∃ m, j = m + 1 := ⟨j - 1, by omega⟩
    simp only [PRunsGet.bytes_Put.l0, numF]
    rw [if_neg (by omega), if_pos (by omega), show ((n : Int) % 256) = (n : Int) by omega]
  | k + 1, j, n, x, hn, hx, hj => by
    obtain ⟨j, rfl⟩ : ∃ m, j = m + 1 := ⟨j - 1, by omega⟩
    simp only [PRunsGet.bytes_Put.l0]
    by_cases h : n < 128
    · rw [numF_small _ _ h, if_neg (by omega), if_pos (by omega), show ((n : Int) % 256) = (n : Int) by omega]
    · rw [numF_big k n (by omega), if_pos (by omega), if_pos (by omega), or128, show ((n : Int) / 128) = ((n / 128 : Nat) : Int) by omega]
      rw [put_l0 k j (n / 128) _ (by rw [Nat.pow_succ] at hn; omega) (by simp; omega) (by omega)]
      simp
theorem put_f (n : Nat) (l : List Int) (hn : n < 18446744073709551616) (hl : l.length < 140737488355000) : PRunsGet.bytes_Put.f 12 l (n : Int) = some (l ++ num n) := by
  unfold PRunsGet.bytes_Put.f
  simp only [Option.bind_some, List.length_nil, Nat.zero_add, List.nil_append]
  rw [if_pos (by omega)]
  exact put_l0 9 12 n l (by omega) (by omega) (by omega)

theorem or_shl (acc c i : Nat) (ha : acc < 128 ^ i) (hi : i ≤ 9) (hc : c % 128 * 128 ^ i < 18446744073709551616) :
    bits .or .u64 (acc : Int) (shl .u64 (IntKind.u64.wrap ((c % 128 : Nat) : Int)) (7 * (i : Int))) = ((acc + c % 128 * 128 ^ i : Nat) : Int) := by
  have hp : (128 : Nat) ^ i = 2 ^ (7 * i) := by rw [show (128 : Nat) = 2 ^ 7 by decide, ← Nat.pow_mul]
  have hlt : acc < 18446744073709551616 := by
    have : 128 ^ i ≤ 128 ^ 9 := Nat.pow_le_pow_right (by decide) hi
    simp only [show (128 : Nat) ^ 9 = 9223372036854775808 by decide] at this
    omega
  have e1 : shl .u64 (IntKind.u64.wrap ((c % 128 : Nat) : Int)) (7 * (i : Int)) = ((c % 128 * 128 ^ i : Nat) : Int) := by
    unfold shl
    rw [wu64_id ((c % 128 : Nat) : Int) (by omega) (by omega), show (7 * (i : Int)).toNat = 7 * i by omega, Nat.min_eq_left (by simp only [IntKind.bits]; omega)]
    rw [show ((c % 128 : Nat) : Int) * 2 ^ (7 * i) = ((c % 128 * 128 ^ i : Nat) : Int) by rw [hp]; simp]
    exact wu64_id _ (by omega) (by omega)
  rw [e1, (bits_nat .u64 64 (by decide) (fun n a b => wu64_id n a (by simpa using b)) acc (c % 128 * 128 ^ i) (by omega) (by omega)).2]
  congr 1
  rw [Nat.or_comm, hp, Nat.mul_comm, ← Nat.two_pow_add_eq_or_of_lt (by rw [← hp]; exact ha) (c % 128)]
  omega

/-- Two numbers as the program has them. -/
def ints (p : Nat × Nat) : Int × Int := ((p.1 : Int), (p.2 : Int))
theorem number_l0 (L : List Int) (hL : Bytes L) (hlen : L.length ≤ 140737488355328) : ∀ (d : Nat) (k i acc : Nat), d = L.length - i → i ≤ L.length → i ≤ 9 → acc < 128 ^ i → 2 * d < k →
    PRunsGet.bytes_number.l0 k (acc : Int) L (L.length : Int) (i : Int) = some (ints (decF i acc (L.drop i)))
  | 0, k, i, acc, hd, hi, h9, ha, hk => by
    obtain ⟨k, rfl⟩ : ∃ m, k = m + 1 := ⟨k - 1, by omega⟩
    simp only [PRunsGet.bytes_number.l0]
    rw [if_neg (by omega), List.drop_eq_nil_of_le (by omega)]
    rfl
  | d + 1, k, i, acc, hd, hi, h9, ha, hk => by
    obtain ⟨k, rfl⟩ : ∃ m, k = m + 2 := ⟨k - 2, by omega⟩
    have hlt : i < L.length := by omega
    have hr : rd L (i : Int) = L[i] := by simp [rd, List.getD_eq_getElem?_getD, List.getElem?_eq_getElem hlt]
    obtain ⟨hc0, hc1⟩ := hL _ (List.getElem_mem hlt)
    obtain ⟨c, hc⟩ : ∃ c : Nat, L[i] = (c : Int) := ⟨L[i].toNat, by omega⟩
    rw [hc] at hc0 hc1 hr
    have q1 : (i : Int) < (L.length : Int) := by omega
    have q2 : 0 ≤ (i : Int) := by omega
    have q3 : (i : Int) = 9 → (i : Int) > 0 := by omega
    have F1 : (i : Int) = 9 → (c : Int) > 1 → (true = true ↔ (i = 9 ∧ (c : Int) > 1) ∨ (i > 0 ∧ (c : Int) = 0)) := fun a b => ⟨fun _ => by omega, fun _ => rfl⟩
    have F2 : (i : Int) = 9 → ¬ (c : Int) > 1 → (((c : Int) == 0) = true ↔ (i = 9 ∧ (c : Int) > 1) ∨ (i > 0 ∧ (c : Int) = 0)) := fun a b => by rw [beq_iff_eq]; omega
    have F3 : ¬ (i : Int) = 9 → (i : Int) > 0 → (((c : Int) == 0) = true ↔ (i = 9 ∧ (c : Int) > 1) ∨ (i > 0 ∧ (c : Int) = 0)) := fun a b => by rw [beq_iff_eq]; omega
    have F4 : ¬ (i : Int) = 9 → ¬ (i : Int) > 0 → (false = true ↔ (i = 9 ∧ (c : Int) > 1) ∨ (i > 0 ∧ (c : Int) = 0)) := fun a b => ⟨fun h => absurd h (by decide), fun h => by omega⟩
    have hw7 : wrap64 (7 * (i : Int)) = 7 * (i : Int) := by unfold wrap64; omega
    have hw1 : wrap64 ((i : Int) + 1) = ((i + 1 : Nat) : Int) := by unfold wrap64; omega
    have hdrop : L.drop i = (c : Int) :: L.drop (i + 1) := by rw [List.drop_eq_getElem_cons hlt, hc]
    have hj : ∀ b : Bool, (b = true ↔ (i = 9 ∧ (c : Int) > 1) ∨ (i > 0 ∧ (c : Int) = 0)) → PRunsGet.bytes_number.j1 (k + 1) (acc : Int) (i : Int) (c : Int) L (L.length : Int) (i : Int) b = some (ints (decF i acc (L.drop i))) := by
      intro b hb
      simp only [PRunsGet.bytes_number.j1, hw7, hw1]
      rw [hdrop]
      clear hw7 hw1 hr hdrop F1 F2 F3 F4
      simp only [decF]
      by_cases hbt : b = true
      · rw [if_pos hbt, if_pos (hb.1 hbt)]
        rfl
      · have hnot := fun h => hbt (hb.2 h)
        have hfit : c % 128 * 128 ^ i < 18446744073709551616 := by
          by_cases h9' : i = 9
          · have : c ≤ 1 := Nat.le_of_not_lt (fun h => hnot (.inl ⟨h9', by omega⟩))
            rw [h9', show (128 : Nat) ^ 9 = 9223372036854775808 by decide]; omega
          · have h3 : 128 ^ i ≤ 128 ^ 8 := Nat.pow_le_pow_right (by decide) (by omega)
            have h4 : c % 128 * 128 ^ i ≤ 127 * 128 ^ 8 := Nat.mul_le_mul (by omega) h3
            simp only [show 127 * (128 : Nat) ^ 8 = 9151314442816847872 by decide] at h4
            omega
        rw [if_neg hbt, if_neg hnot, if_pos (by omega), and127 c (by omega), or_shl acc c i ha h9 hfit]
        by_cases hlow : (c : Int) < 128
        · rw [if_pos hlow, if_pos hlow]
          have : c % 128 = c := by omega
          simp only [ints, this, Int.toNat_natCast]
        · rw [if_neg hlow, if_neg hlow]
          have h9' : i ≠ 9 := fun h => hnot (.inl ⟨h, by omega⟩)
          simp only [Int.toNat_natCast]
          refine number_l0 L hL hlen d k (i + 1) _ (by omega) (by omega) (by omega) ?_ (by omega)
          rw [pow_step]
          have : c % 128 * 128 ^ i ≤ 127 * 128 ^ i := Nat.mul_le_mul_right _ (by omega)
          omega
    simp only [PRunsGet.bytes_number.l0]
    rw [if_pos q1, if_pos q2, if_pos q1, hr]
    by_cases a : (i : Int) = 9
    · rw [if_pos a]
      by_cases b : (c : Int) > 1
      · rw [if_pos b]; exact hj true (F1 a b)
      · rw [if_neg b, if_pos (q3 a)]; exact hj _ (F2 a b)
    · rw [if_neg a]
      by_cases b : (i : Int) > 0
      · rw [if_pos b]; exact hj _ (F3 a b)
      · rw [if_neg b]; exact hj false (F4 a b)
theorem number_f (L : List Int) (hL : Bytes L) (hlen : L.length ≤ 140737488355328) : PRunsGet.bytes_number.f (2 * L.length + 1) L = some (((dec L).1 : Int), ((dec L).2 : Int)) := by
  have := number_l0 L hL hlen L.length (2 * L.length + 1) 0 0 (by omega) (by omega) (by omega) (by simp) (by omega)
  rw [List.drop_zero] at this
  exact this
end Go.Proofs.Ytijdjpcmndjbcaa.CF

namespace Go.Proofs.Ytijdjpcmndjbcaa.BR
open Go.RowKit Go.Proofs.YtijdjpcmndjbcaaW.PrintWords Go.Proofs.YtijdjpcmndjbcaaW.PrintLast Go.Proofs.YtijdjpcmndjbcaaW.PrintMore Go.Proofs.Ytijdjpcmndjbcaa.CD
set_option linter.unusedVariables false
set_option linter.unusedSimpArgs false

/-! ### worlds -/
theorem gset {a w : World} {b : Nat} (h : a.grownBy w (some b)) (i : Nat) (v : Value) : a.grownBy (w.setCell ⟨b, i, none⟩ v) (some b) :=
  ⟨h.os, h.tape, h.output, Nat.le_trans h.size (by simp [World.setCell]), fun k hk hne => (Below.heap_setCell w _ _ k (by intro e; exact hne (by rw [e]))).trans (h.block k hk hne)⟩
theorem gdrewN {a w : World} {row : Option Nat} (h : a.grownBy w row) (n : Nat) : a.grownBy (w.drewN n) row := ⟨h.os, h.tape, h.output, h.size, h.block⟩
theorem gdrew {a w : World} {row : Option Nat} (h : a.grownBy w row) : a.grownBy w.drew row := ⟨h.os, h.tape, h.output, h.size, h.block⟩
theorem gbelow {a w w' : World} {row : Option Nat} (h : a.grownBy w row) (hb : Below w.heap.size w w') : a.grownBy w' row :=
  ⟨hb.os.trans h.os, hb.tape.trans h.tape, hb.output.trans h.output, Nat.le_trans h.size hb.size, fun k hk hne => (hb.block k (Nat.lt_of_lt_of_le hk h.size)).trans (h.block k hk hne)⟩
theorem gtrans {a w w' : World} {row : Option Nat} (h : a.grownBy w row) (k : w.grownBy w' row) : a.grownBy w' row := World.grownBy.trans h k
theorem gofBelow {w w1 : World} {row : Option Nat} (h : Below w.heap.size w w1) : w.grownBy w1 row := grown_of_below h row
theorem belowg {B : Nat} {a w w' : World} {g : Nat} (h : Below B a w) (hg : w.grownBy w' (some g)) (hB : B ≤ w.heap.size) (hr : B ≤ g) : Below B a w' := h.grown hg hB (fun k hk => by cases hk; exact hr)

/-- The reader at block g: xs is left; is it broken? -/
structure Rdr (w : World) (g : Nat) (xs : List Int) (br : Bool) : Prop where
  cell : ∃ (A : Option Addr) (c : Nat), w.heap[g]? = some (.cells #[.slice A xs.length c, .bool true, .bool br] 50 (0, 0)) ∧ xs.length ≤ c ∧ ReadsInt w .u8 A xs.length xs ∧ (∀ ad, A = some ad → 0 < xs.length → ad.block ≠ g)
  small : xs.length ≤ 140737488355328
  bytes : Bytes xs
theorem Rdr.lt {w : World} {g : Nat} {xs : List Int} {br : Bool} (h : Rdr w g xs br) : g < w.heap.size := by
  obtain ⟨A, c, hb, _⟩ := h.cell
  exact blk_lt hb
theorem reads_kept {w w' : World} {A : Option Addr} {n : Nat} {xs : List Int} (h : ReadsInt w .u8 A n xs) (hk : ∀ ad, A = some ad → 0 < n → ad.block < w.heap.size → w'.heap[ad.block]? = w.heap[ad.block]?) : ReadsInt w' .u8 A n xs :=
  ⟨h.1, h.2.1, fun hn => by
    obtain ⟨ad, e, hc⟩ := h.2.2 hn
    refine ⟨ad, e, fun j hj => ?_⟩
    have hj' := hc j hj
    have hl := World.block_lt_of_cell? w _ hj'
    have hbk : (ad.add j).block = ad.block := by unfold Addr.add; split <;> rfl
    rw [hbk] at hl
    have e2 := hk ad e hn hl
    have : w'.cell? (ad.add j) = w.cell? (ad.add j) := by unfold World.cell?; rw [hbk, e2]
    rw [this]; exact hj'⟩
/-- Another block's turn leaves a reader. -/
theorem Rdr.kept {w w' : World} {g : Nat} {xs : List Int} {br : Bool} (h : Rdr w g xs br) {row : Option Nat} (hg : w.grownBy w' row) (hne : some g ≠ row) (hdata : ∀ ad : Addr, some ad.block = row → ∀ A c, w.heap[g]? = some (.cells #[.slice A xs.length c, .bool true, .bool br] 50 (0, 0)) → 0 < xs.length → A ≠ some ad) : Rdr w' g xs br := by
  obtain ⟨A, c, hb, hc, hr, hn⟩ := h.cell
  refine ⟨⟨A, c, (hg.block g (blk_lt hb) hne).trans hb, hc, reads_kept hr fun ad e h0 hl => hg.block _ hl (fun e2 => hdata ad e2 A c hb h0 e), hn⟩, h.small, h.bytes⟩
theorem Rdr.below {w w' : World} {g : Nat} {xs : List Int} {br : Bool} (h : Rdr w g xs br) (hb : Below w.heap.size w w') : Rdr w' g xs br :=
  h.kept (gofBelow (row := none) hb) (by simp) (fun ad e => by cases e)
theorem Rdr.drewN {w : World} {g : Nat} {xs : List Int} {br : Bool} (h : Rdr w g xs br) (n : Nat) : Rdr (w.drewN n) g xs br := h.below (pw_below_drewN (Below.refl _ _) n)
/-- It breaks. -/
theorem Rdr.breaks {w : World} {g : Nat} {xs : List Int} {br : Bool} (h : Rdr w g xs br) : Rdr (w.setCell ⟨g, 2, none⟩ (.bool true)) g xs true := by
  obtain ⟨A, c, hb, hc, hr, hn⟩ := h.cell
  refine ⟨⟨A, c, by rw [blk_set hb]; rfl, hc, reads_kept hr fun ad e h0 hl => Below.heap_setCell w _ _ _ (hn ad e h0), hn⟩, h.small, h.bytes⟩
theorem cutFrom (A : Option Addr) (xs : List Int) (c m : Nat) (hm : m ≤ xs.length) (hc : xs.length ≤ c) :
    ∃ A' : Option Addr, (∀ W : World, (Instr.slice 22 (.slice A xs.length c) (some (.int .i64 (m : Int))) none none).run Try.prog W = .ok (.slice A' (xs.length - m) (c - m)) W) ∧
      (∀ w, ReadsInt w .u8 A xs.length xs → ReadsInt w .u8 A' (xs.drop m).length (xs.drop m)) ∧ (∀ ad', A' = some ad' → ∃ ad, A = some ad ∧ ad.block = ad'.block) := by
  obtain ⟨i0, hi, hz0, hz1, hz2⟩ := info_parts (show (Try.prog.info? 5).map (fun i => (i.zero, i.size, i.bytes)) = some (some (.int .u8 0), 1, 1) by kernel_rfl)
  refine ⟨if c = m then A else A.map (·.add m), fun W => ?_, fun w h => ?_, fun ad' e => ?_⟩
  · have := cut_from (P := Try.prog) 22 5 .i64 Try.underlying22 hi 1 hz1 A xs.length c (m : Int) (by omega) (by omega) W
    simpa using this
  · have := h.drop_ m hm hc
    rw [List.length_drop]
    exact this
  · split at e
    · exact ⟨ad', e, rfl⟩
    · cases A with
      | none => simp at e
      | some ad =>
        simp only [Option.map_some, Option.some.injEq] at e
        refine ⟨ad, rfl, ?_⟩
        rw [← e]
        unfold Addr.add
        split <;> rfl
/-- It goes on behind m bytes. -/
theorem Rdr.moves {w : World} {g : Nat} {xs : List Int} {br : Bool} (h : Rdr w g xs br) {A : Option Addr} {c : Nat} (hb : w.heap[g]? = some (.cells #[.slice A xs.length c, .bool true, .bool br] 50 (0, 0))) {m : Nat} (hm : m ≤ xs.length) {A' : Option Addr}
    (hr : ∀ w, ReadsInt w .u8 A xs.length xs → ReadsInt w .u8 A' (xs.drop m).length (xs.drop m)) (ha : ∀ ad', A' = some ad' → ∃ ad, A = some ad ∧ ad.block = ad'.block) :
    Rdr (w.setCell ⟨g, 0, none⟩ (.slice A' (xs.length - m) (c - m))) g (xs.drop m) br := by
  obtain ⟨A2, c2, hb2, hc, hrd, hn⟩ := h.cell
  rw [hb2] at hb
  simp only [Option.some.injEq, Obj.cells.injEq, Array.mk.injEq, List.cons.injEq, Value.slice.injEq, and_true, true_and] at hb
  obtain ⟨rfl, rfl⟩ := hb
  have hl : (xs.drop m).length = xs.length - m := List.length_drop
  have hne : ∀ ad', A' = some ad' → 0 < (xs.drop m).length → ad'.block ≠ g := fun ad' e h0 => by
    obtain ⟨ad, e1, e2⟩ := ha ad' e
    rw [← e2]
    exact hn ad e1 (by omega)
  refine ⟨⟨A', c2 - m, by rw [blk_set hb2, hl]; rfl, by omega, reads_kept (hr w hrd) fun ad e h0 hlt => Below.heap_setCell w _ _ _ (hne ad e h0), hne⟩, by have := h.small; omega, h.bytes.drop m⟩

/-! ### what a call does -/
abbrev St := List Int × Bool
def rNum (s : St) : Nat × St := if s.2 then (0, s) else if (dec s.1).2 = 0 then (0, (s.1, true)) else ((dec s.1).1, (s.1.drop (dec s.1).2, false))

theorem fine_calls (g : Nat) (xs : List Int) (br : Bool) (w : World) (h : Rdr w g xs br) :
    Calls Try.prog 23 #[.pointer (some ⟨g, 0, none⟩)] w fun e w' => e = .returned (.bool (!br)) ∧ Drawn0 w w' := by
  obtain ⟨A, c, hb, hc, hr, hne⟩ := h.cell
  have h1 := blk_cell hb 1
  have h2 := blk_cell hb 2
  simp only [List.getElem?_toArray, List.getElem?_cons_succ, List.getElem?_cons_zero] at h1 h2
  clear hb hc hr hne h
  go_enter Try.func23, Try.ntmps23
  go_wp2
  go_ret
  exact ⟨rfl, by repeat (first | exact Drawn0.refl _ | apply Drawn0.step)⟩
theorem number_calls (A : Option Addr) (c : Nat) (xs : List Int) (w : World) (hr : ReadsInt w .u8 A xs.length xs) (hc : xs.length ≤ c) (hb : Bytes xs) (hs : xs.length ≤ 140737488355328) :
    Calls Try.prog 24 #[.slice A xs.length c] w fun e w' => e = .returned (.tuple #[.int .u64 ((dec xs).1 : Int), .int .i64 ((dec xs).2 : Int)]) ∧ Drawn0 w w' :=
  PRunsGet.bytes_number.calls _ A c xs _ _ w (Kd.C_of_reads (d := (0 : Int)) (h1 := fun _ => rfl) hr) hc (CF.number_f xs hb hs)
theorem num_broken (g : Nat) (xs : List Int) (w : World) (h : Rdr w g xs true) :
    Calls Try.prog 15 #[.pointer (some ⟨g, 0, none⟩)] w fun e w' => e = .returned (.int .u64 0) ∧ Rdr w' g xs true ∧ w.grownBy w' (some g) := by
  have H := Lib.hid h
  clear h
  go_enter Try.func15, Try.ntmps15
  go_wp2_with (go_at_call 23; refine (fine_calls g xs true _ H.out).mono ?_; rintro e w' ⟨rfl, ⟨nd, rfl⟩⟩)
  go_ret
  exact ⟨rfl, H.out.drewN _, gdrewN (World.grownBy.refl _ _) _⟩
theorem num_no (g : Nat) (xs : List Int) (w : World) (h : Rdr w g xs false) (hk : (dec xs).2 = 0) :
    Calls Try.prog 15 #[.pointer (some ⟨g, 0, none⟩)] w fun e w' => e = .returned (.int .u64 0) ∧ Rdr w' g xs true ∧ w.grownBy w' (some g) := by
  have H := Lib.hid h
  obtain ⟨A, c, hb, hc, hr, hne⟩ := h.cell
  have h0 := blk_cell hb 0
  have h2 := blk_cell hb 2
  have f2 := blk_frozen hb 2
  simp only [List.getElem?_toArray, List.getElem?_cons_succ, List.getElem?_cons_zero] at h0 h2
  have HN0 := fun w' (hd : ReadsInt w' .u8 A xs.length xs) => number_calls A c xs w' hd hc h.bytes h.small
  rw [hk] at HN0
  have HN := Lib.hid HN0
  have Hr := Lib.hid hr
  clear hb hc hr hne h hk HN0
  go_enter Try.func15, Try.ntmps15
  go_wp2_with (first | (go_at_call 23; refine (fine_calls g xs false _ H.out).mono ?_; rintro e w' ⟨rfl, ⟨nd, rfl⟩⟩) | (go_at_call 24; refine (HN.out _ (Hr.out.below (pw_below_drewN (Below.refl _ _) _))).mono ?_; rintro e w' ⟨rfl, ⟨nd2, rfl⟩⟩))
  go_ret
  exact ⟨rfl, (H.out.drewN _).breaks, gset (gdrewN (World.grownBy.refl _ _) _) _ _⟩
set_option maxRecDepth 100000 in
theorem num_ok (g : Nat) (xs : List Int) (w : World) (h : Rdr w g xs false) (m k : Nat) (hd : dec xs = (m, k)) (hk : k ≠ 0) :
    Calls Try.prog 15 #[.pointer (some ⟨g, 0, none⟩)] w fun e w' => e = .returned (.int .u64 (m : Int)) ∧ Rdr w' g (xs.drop k) false ∧ w.grownBy w' (some g) := by
  have H := Lib.hid h
  obtain ⟨A, c, hb, hc, hr, hne⟩ := h.cell
  have hkl := (dec_back xs h.bytes m k hd hk).2.2.2.1
  have h0 := blk_cell hb 0
  have f0 := blk_frozen hb 0
  simp only [List.getElem?_toArray, List.getElem?_cons_succ, List.getElem?_cons_zero] at h0
  obtain ⟨A', hcut, hrd, hA'⟩ := cutFrom A xs c k hkl hc
  have HB := Lib.hid hb
  have HM := Lib.hid hrd
  have HA := Lib.hid hA'
  have HN0 := fun w' (hd : ReadsInt w' .u8 A xs.length xs) => number_calls A c xs w' hd hc h.bytes h.small
  rw [hd] at HN0
  have HN := Lib.hid HN0
  have Hr := Lib.hid hr
  have hk0 : (((k : Nat) : Int) == 0) = false := by rw [beq_eq_false_iff_ne]; omega
  have hk1 : ((k : Nat) : Int) ≤ (xs.length : Int) := by omega
  have Hkl := Lib.hid hkl
  clear hb hc hr hne h hd hk HN0 hrd hA' hkl
  go_enter Try.func15, Try.ntmps15
  go_wp2_with (first | (go_at_call 23; refine (fine_calls g xs false _ H.out).mono ?_; rintro e w' ⟨rfl, ⟨nd, rfl⟩⟩) | (go_at_call 24; refine (HN.out _ (Hr.out.below (pw_below_drewN (Below.refl _ _) _))).mono ?_; rintro e w' ⟨rfl, ⟨nd2, rfl⟩⟩))
  go_ret
  exact ⟨rfl, (H.out.drewN _).moves (blk_drewN HB.out _) Hkl.out HM.out HA.out, gset (gdrewN (World.grownBy.refl _ _) _) _ _⟩
theorem num_calls (g : Nat) (xs : List Int) (br : Bool) (w : World) (h : Rdr w g xs br) :
    Calls Try.prog 15 #[.pointer (some ⟨g, 0, none⟩)] w fun e w' => e = .returned (.int .u64 ((rNum (xs, br)).1 : Int)) ∧ Rdr w' g (rNum (xs, br)).2.1 (rNum (xs, br)).2.2 ∧ w.grownBy w' (some g) := by
  unfold rNum
  cases br with
  | true => exact num_broken g xs w h
  | false =>
    simp only [Bool.false_eq_true, if_false]
    by_cases hk : (dec xs).2 = 0
    · rw [if_pos hk]; exact num_no g xs w h hk
    · rw [if_neg hk]; exact num_ok g xs w h _ _ rfl hk
end Go.Proofs.Ytijdjpcmndjbcaa.BR

namespace Go.Proofs.Ytijdjpcmndjbcaa.BR
open Go.RowKit Go.Proofs.YtijdjpcmndjbcaaW.PrintWords Go.Proofs.YtijdjpcmndjbcaaW.PrintLast Go.Proofs.YtijdjpcmndjbcaaW.PrintMore Go.Proofs.Ytijdjpcmndjbcaa.CD
set_option linter.unusedVariables false
set_option linter.unusedSimpArgs false
theorem infoU8 : (Try.prog.info? 5).map (fun i => (i.zero, i.size, i.bytes)) = some (some (.int .u8 0), 1, 1) := by kernel_rfl
/-- A row of bytes of the call's own (nil let in). -/
def OB (w : World) (base : Nat) (v : Value) (l : List Int) : Prop := w.ownsRow base 5 1 v l.length (nums .u8 l)
theorem OB.of_R {w : World} {base : Nat} {ok : Nat → Prop} {v : Value} {l : List Int} (h : Kd.R (Kd.int .u8) 5 w base ok v l) : OB w base v l := Kd.own_of_R h
theorem OB.slice {w : World} {base : Nat} {v : Value} {l : List Int} (h : OB w base v l) : ∃ A c, v = .slice A l.length c ∧ l.length ≤ c ∧ ReadsInt w .u8 A l.length l := by
  obtain ⟨A, c, rfl, hr⟩ := own_reads (k := .u8) h
  exact ⟨A, c, rfl, own_le h, hr⟩
theorem OB.below {w w1 : World} {base : Nat} {v : Value} {l : List Int} (h : OB w base v l) (hb : Below w.heap.size w w1) : OB w1 base v l := pw_own_below h hb
theorem OB.reads {w : World} {base : Nat} {A : Option Addr} {c : Nat} {l : List Int} (h : OB w base (.slice A l.length c) l) : ReadsInt w .u8 A l.length l := by
  obtain ⟨A', c', he, hc, hr⟩ := h.slice
  injection he with e1 e2 e3
  subst e1
  exact hr
theorem OB.empty (W : World) (base : Nat) (hb : base ≤ W.heap.size) : OB (W.alloc (.cells #[] 5)) base (.slice (some ⟨W.heap.size, 0, none⟩) 0 0) [] := own_lit W base 5 .u8 [] hb (by simp)

theorem Rdr.new {w1 : World} {A1 : Option Addr} {c1 : Nat} {xs : List Int} (hr : ReadsInt w1 .u8 A1 xs.length xs) (hc : xs.length ≤ c1) (hb : Bytes xs) (hs : xs.length ≤ 140737488355328) :
    Rdr (w1.alloc (.cells #[.slice A1 xs.length c1, .bool true, .bool false] 50)) w1.heap.size xs false := by
  refine ⟨⟨A1, c1, blk_new _ _, hc, hr.below (below_alloc (Below.refl _ _) _), fun ad e h0 e2 => ?_⟩, hs, hb⟩
  obtain ⟨ad', e', hcell⟩ := hr.2.2 h0
  rw [e] at e'
  obtain rfl := Option.some.inj e'
  have := World.block_lt_of_cell? w1 _ (hcell 0 h0)
  have hbk : (ad.add 0).block = ad.block := by unfold Addr.add; split <;> rfl
  omega
set_option maxHeartbeats 400000 in
set_option maxRecDepth 100000 in
theorem new_calls (A : Option Addr) (c : Nat) (xs : List Int) (w : World) (hr : ReadsInt w .u8 A xs.length xs) (hc : xs.length ≤ c) (hb : Bytes xs) (hs : xs.length ≤ 140737488355328) :
    Calls Try.prog 14 #[.slice A xs.length c] w fun e w' => ∃ g, e = .returned (.pointer (some ⟨g, 0, none⟩)) ∧ w.heap.size ≤ g ∧ Rdr w' g xs false ∧ Below w.heap.size w w' := by
  have Hr := Lib.hid hr
  clear hr
  go_enter Try.func14, Try.ntmps14
  go_wp2_with (at_builtin; refine print_append_row (w0 := w) w.heap.size rfl (.tmp 3) (.tmp 4) 22 5 .u8 1 rfl Try.underlying22 infoU8 (by decide) (.slice (some ⟨w.heap.size, 0, none⟩) 0 0) [] xs A xs.length c rfl rfl ?own ?reads ?below ?size ?len ?_; (case own => exact OB.empty w _ (Nat.le_refl _)); (case reads => exact Hr.out.below (below_alloc (Below.refl _ _) _)); (case below => exact below_alloc (Below.refl _ _) _); (case size => simp); (case len => simp; omega); intro v1 w1 hown hb1 hg hat; rw [List.nil_append] at hown; obtain ⟨A1, c1, rfl, hc1, hr1⟩ := OB.slice hown; have HO := Lib.hid hown; have HB := Lib.hid hb1; have HR := Lib.hid hr1; clear hown hb1 hr1 hg hat)
  go_ret
  exact ⟨w1.heap.size, rfl, HB.out.size, Rdr.new HR.out hc1 hb hs, below_alloc HB.out _⟩
/-- A cell that the call writes to a slice: the value's own form. -/
def rTake (s : St) (n : Int) : List Int × St := if s.2 then ([], s) else if n < 0 ∨ n > (s.1.length : Int) then ([], (s.1, true)) else (s.1.take n.toNat, (s.1.drop n.toNat, false))
set_option maxRecDepth 100000 in
theorem take_broken (g : Nat) (xs : List Int) (n : Int) (w : World) (h : Rdr w g xs true) :
    Calls Try.prog 16 #[.pointer (some ⟨g, 0, none⟩), .int .i64 n] w fun e w' => ∃ v, e = .returned v ∧ OB w' w.heap.size v [] ∧ Rdr w' g xs true ∧ w.grownBy w' (some g) := by
  have H := Lib.hid h
  clear h
  go_enter Try.func16, Try.ntmps16
  go_wp2_with (go_at_call 23; refine (fine_calls g xs true _ H.out).mono ?_; rintro e w' ⟨rfl, ⟨nd, rfl⟩⟩)
  go_ret
  exact ⟨_, rfl, own_nil _ _ _ _, H.out.drewN _, gdrewN (World.grownBy.refl _ _) _⟩
set_option maxRecDepth 100000 in
theorem take_no (g : Nat) (xs : List Int) (n : Int) (w : World) (h : Rdr w g xs false) (hn : n < 0 ∨ n > (xs.length : Int)) :
    Calls Try.prog 16 #[.pointer (some ⟨g, 0, none⟩), .int .i64 n] w fun e w' => ∃ v, e = .returned v ∧ OB w' w.heap.size v [] ∧ Rdr w' g xs true ∧ w.grownBy w' (some g) := by
  have H := Lib.hid h
  obtain ⟨A, c, hb, hc, hr, hne⟩ := h.cell
  have h0 := blk_cell hb 0
  have h2 := blk_cell hb 2
  have f2 := blk_frozen hb 2
  simp only [List.getElem?_toArray, List.getElem?_cons_succ, List.getElem?_cons_zero] at h0 h2
  clear hb hc hr hne h
  by_cases h1 : n < 0
  · have hd : decide (n < 0) = true := decide_eq_true h1
    clear hn
    go_enter Try.func16, Try.ntmps16
    go_wp2_with (go_at_call 23; refine (fine_calls g xs false _ H.out).mono ?_; rintro e w' ⟨rfl, ⟨nd, rfl⟩⟩)
    go_ret
    exact ⟨_, rfl, own_nil _ _ _ _, (H.out.drewN _).breaks, gset (gdrewN (World.grownBy.refl _ _) _) _ _⟩
  · have hd : decide (n < 0) = false := decide_eq_false h1
    have hd2 : decide ((xs.length : Int) < n) = true := decide_eq_true (by omega)
    clear hn
    go_enter Try.func16, Try.ntmps16
    go_wp2_with (go_at_call 23; refine (fine_calls g xs false _ H.out).mono ?_; rintro e w' ⟨rfl, ⟨nd, rfl⟩⟩)
    go_ret
    exact ⟨_, rfl, own_nil _ _ _ _, (H.out.drewN _).breaks, gset (gdrewN (World.grownBy.refl _ _) _) _ _⟩
theorem OB.set {w1 : World} {base : Nat} {v : Value} {l : List Int} (h : OB w1 base v l) {g : Nat} (hg : g < base) (i : Nat) (u : Value) : OB (w1.setCell ⟨g, i, none⟩ u) base v l :=
  own_setCell h (fun e => by have := own_base h g e.symm; omega) u
set_option maxHeartbeats 400000 in
set_option maxRecDepth 100000 in
theorem take_ok (g : Nat) (xs : List Int) (n : Int) (w : World) (h : Rdr w g xs false) (hn0 : 0 ≤ n) (hn1 : n ≤ (xs.length : Int)) :
    Calls Try.prog 16 #[.pointer (some ⟨g, 0, none⟩), .int .i64 n] w fun e w' => ∃ v, e = .returned v ∧ OB w' w.heap.size v (xs.take n.toNat) ∧ Rdr w' g (xs.drop n.toNat) false ∧ w.grownBy w' (some g) := by
  have H := Lib.hid h
  obtain ⟨k, rfl⟩ := Int.eq_ofNat_of_zero_le hn0
  rw [Int.toNat_natCast]
  have hkl : k ≤ xs.length := by omega
  obtain ⟨A, c, hb, hc, hr, hne⟩ := h.cell
  have hg := blk_lt hb
  have h0 := blk_cell hb 0
  have f0 := blk_frozen hb 0
  simp only [List.getElem?_toArray, List.getElem?_cons_succ, List.getElem?_cons_zero] at h0
  obtain ⟨A', hcut, hrd, hA'⟩ := cutFrom A xs c k hkl hc
  have hto := cut_to (P := Try.prog) 22 5 .i64 Try.underlying22 (info_parts infoU8).choose_spec.1 A xs.length c (k : Int) (by omega) (by omega) hc
  simp only [Int.toNat_natCast] at hto
  have hrt := hr.take_ k hkl
  obtain ⟨ys, hys⟩ : ∃ ys, ys = xs.take k := ⟨_, rfl⟩
  rw [← hys] at hrt ⊢
  have hyl : ys.length ≤ 140737488355328 := by rw [hys, List.length_take]; have := h.small; omega
  have hyk : k ≤ 140737488355328 := by have := h.small; omega
  have Hb := Lib.hid hb
  have HM := Lib.hid hrd
  have HA := Lib.hid hA'
  have Hr := Lib.hid hrt
  have Hkl := Lib.hid hkl
  have h0a : ∀ (n : Nat) (o : Obj), ((w.drewN n).alloc o).cell? ⟨g, 0, none⟩ = some (.slice A xs.length c) := fun n o => pw_cell_below (below_alloc (pw_below_drewN (Below.refl _ _) _) _) h0
  have hd : decide ((k : Int) < 0) = false := decide_eq_false (by omega)
  have hd2 : decide (xs.length < k) = false := decide_eq_false (by omega)
  clear hb hc hr hne h hrd hA' hkl hn0 hn1 hrt hys
  go_enter Try.func16, Try.ntmps16
  go_wp2_with (first | (go_at_call 23; refine (fine_calls g xs false _ H.out).mono ?_; rintro e w' ⟨rfl, ⟨nd, rfl⟩⟩) | (at_builtin; refine print_append_row (w0 := w) w.heap.size rfl (.tmp 23) (.tmp 29) 22 5 .u8 1 rfl Try.underlying22 infoU8 (by decide) (.slice (some ⟨w.heap.size, 0, none⟩) 0 0) [] ys A k c rfl rfl ?own ?reads ?below ?size ?len ?_; (case own => exact OB.empty _ _ (Nat.le_refl _)); (case reads => exact Hr.out.below (below_alloc (pw_below_drewN (Below.refl _ _) _) _)); (case below => exact below_alloc (pw_below_drewN (Below.refl _ _) _) _); (case size => simp); (case len => simp; omega); intro v1 w1 hown hb1 hg1 hat; rw [List.nil_append] at hown; obtain ⟨A1, c1, rfl, hc1, hr1⟩ := OB.slice hown; have HO := Lib.hid hown; have HB := Lib.hid hb1; have h0' := (hb1.cell (p := ⟨g, 0, none⟩) hg).trans h0; have f0' := (hb1.frozen (p := ⟨g, 0, none⟩) hg).trans f0; have Hb' := Lib.hid ((hb1.block g hg).trans Hb.out); clear hown hb1 hr1 hg1 hat))
  go_ret
  exact ⟨_, rfl, OB.set HO.out hg _ _, (H.out.below HB.out).moves Hb'.out Hkl.out HM.out HA.out, gset (gofBelow HB.out) _ _⟩
theorem take_calls (g : Nat) (xs : List Int) (br : Bool) (n : Int) (w : World) (h : Rdr w g xs br) :
    Calls Try.prog 16 #[.pointer (some ⟨g, 0, none⟩), .int .i64 n] w fun e w' => ∃ v, e = .returned v ∧ OB w' w.heap.size v (rTake (xs, br) n).1 ∧ Rdr w' g (rTake (xs, br) n).2.1 (rTake (xs, br) n).2.2 ∧ w.grownBy w' (some g) := by
  unfold rTake
  cases br with
  | true => exact take_broken g xs n w h
  | false =>
    simp only [Bool.false_eq_true, if_false]
    by_cases hn : n < 0 ∨ n > (xs.length : Int)
    · rw [if_pos hn]; exact take_no g xs n w h hn
    · rw [if_neg hn]; exact take_ok g xs n w h (by omega) (by omega)

/-- Left. -/
theorem left_calls (g : Nat) (xs : List Int) (br : Bool) (w : World) (h : Rdr w g xs br) :
    Calls Try.prog 19 #[.pointer (some ⟨g, 0, none⟩)] w fun e w' => e = .returned (.int .i64 (xs.length : Int)) ∧ Drawn0 w w' := by
  obtain ⟨A, c, hb, hc, hr, hne⟩ := h.cell
  have h0 := blk_cell hb 0
  simp only [List.getElem?_toArray, List.getElem?_cons_succ, List.getElem?_cons_zero] at h0
  clear hb hc hr hne h
  go_enter Try.func19, Try.ntmps19
  go_wp2
  go_ret
  exact ⟨rfl, by repeat (first | exact Drawn0.refl _ | apply Drawn0.step)⟩
/-- Err. -/
theorem err_calls (g : Nat) (xs : List Int) (br : Bool) (w : World) (h : Rdr w g xs br) :
    Calls Try.prog 17 #[.pointer (some ⟨g, 0, none⟩)] w fun e w' => e = .returned (.int .i64 (if br then 4 else 0)) ∧ Drawn0 w w' := by
  obtain ⟨A, c, hb, hc, hr, hne⟩ := h.cell
  have h1 := blk_cell hb 1
  have h2 := blk_cell hb 2
  simp only [List.getElem?_toArray, List.getElem?_cons_succ, List.getElem?_cons_zero] at h1 h2
  clear hb hc hr hne h
  cases br
  all_goals
    go_enter Try.func17, Try.ntmps17
    go_wp2
    go_ret
    exact ⟨rfl, by repeat (first | exact Drawn0.refl _ | apply Drawn0.step)⟩
end Go.Proofs.Ytijdjpcmndjbcaa.BR

namespace Go.Proofs.Ytijdjpcmndjbcaa.RU
open Go.RowKit Go.Proofs.Ytijdjpcmndjbcaa.CD Go.Proofs.Ytijdjpcmndjbcaa.BR
set_option linter.unusedVariables false
set_option linter.unusedSimpArgs false
/-- A row's runs: n of x at its begin, already counted. -/
def runF : Nat → Int → List Int → List (Nat × Int)
  | n, x, [] => [(n, x)]
  | n, x, y :: l => if y = x then runF (n + 1) x l else (n, x) :: runF 1 y l
def runs : List Int → List (Nat × Int)
  | [] => []
  | x :: l => runF 1 x l
/-- Runs as bytes. -/
def rBytes (r : List (Nat × Int)) : List Int := r.flatMap fun p => num p.1 ++ [p.2]
/-- Runs as a row. -/
def flat (r : List (Nat × Int)) : List Int := r.flatMap fun p => List.replicate p.1 p.2
theorem flat_runF : ∀ (l : List Int) (n : Nat) (x : Int), flat (runF n x l) = List.replicate n x ++ l
  | [], n, x => by simp [runF, flat]
  | y :: l, n, x => by
    simp only [runF]
    split
    · rename_i h
      rw [flat_runF l (n + 1) x, h, List.replicate_succ']
      simp
    · have := flat_runF l 1 y
      unfold flat at this ⊢
      rw [List.flatMap_cons, this]
      simp
theorem flat_runs (l : List Int) : flat (runs l) = l := by
  cases l with
  | nil => rfl
  | cons x l => unfold runs; rw [flat_runF]; simp
/-- Runs that a row has: none empty, neighbours unlike. -/
def Good : Option Int → List (Nat × Int) → Prop
  | _, [] => True
  | was, (n, x) :: r => 1 ≤ n ∧ was ≠ some x ∧ Good (some x) r
theorem good_runF : ∀ (l : List Int) (n : Nat) (x : Int) (was : Option Int), 1 ≤ n → was ≠ some x → Good was (runF n x l)
  | [], n, x, was, hn, hw => ⟨hn, hw, trivial⟩
  | y :: l, n, x, was, hn, hw => by
    simp only [runF]
    split
    · exact good_runF l (n + 1) x was (by omega) hw
    · rename_i h
      exact ⟨hn, hw, good_runF l 1 y (some x) (by omega) (fun e => h (by injection e with e; exact e.symm))⟩
theorem good_runs (l : List Int) : Good none (runs l) := by
  cases l with
  | nil => trivial
  | cons x l => exact good_runF l 1 x none (by omega) (by simp)
/-- Good runs are the row's own. -/
theorem runF_flat : ∀ (r : List (Nat × Int)) (n : Nat) (x : Int), 1 ≤ n → Good (some x) r → ∀ k, k < n → runF (n - k) x (List.replicate k x ++ flat r) = (n, x) :: runs (flat r)
  | r, n, x, hn, hg, 0, hk => by
    simp only [Nat.sub_zero, List.replicate_zero, List.nil_append]
    cases r with
    | nil => simp [flat, runF, runs]
    | cons p r =>
      obtain ⟨m, y⟩ := p
      obtain ⟨hm, hne, hr⟩ := hg
      obtain ⟨m, rfl⟩ : ∃ q, m = q + 1 := ⟨m - 1, by omega⟩
      have e : flat ((m + 1, y) :: r) = y :: (List.replicate m y ++ flat r) := by simp [flat, List.replicate_succ]
      rw [e]
      simp only [runF, runs]
      rw [if_neg (fun h => hne (by rw [h]))]
  | r, n, x, hn, hg, k + 1, hk => by
    rw [List.replicate_succ, List.cons_append]
    simp only [runF, if_true]
    have := runF_flat r n x hn hg k (by omega)
    rw [show n - (k + 1) + 1 = n - k by omega]
    exact this
theorem runs_flat : ∀ (r : List (Nat × Int)) (was : Option Int), Good was r → runs (flat r) = r
  | [], _, _ => rfl
  | (n, x) :: r, was, hg => by
    obtain ⟨hn, hne, hr⟩ := hg
    obtain ⟨m, rfl⟩ : ∃ q, n = q + 1 := ⟨n - 1, by omega⟩
    have e : flat ((m + 1, x) :: r) = x :: (List.replicate m x ++ flat r) := by simp [flat, List.replicate_succ]
    rw [e]
    simp only [runs]
    have := runF_flat r (m + 1) x (by omega) hr m (by omega)
    rw [show m + 1 - m = 1 by omega] at this
    rw [this, runs_flat r (some x) hr]
end Go.Proofs.Ytijdjpcmndjbcaa.RU

namespace Go.Proofs.Ytijdjpcmndjbcaa.RU
open Go.RowKit Go.Proofs.Ytijdjpcmndjbcaa.CD Go.Proofs.Ytijdjpcmndjbcaa.BR
set_option linter.unusedVariables false
set_option linter.unusedSimpArgs false
/-- One run more, or none. -/
def bad (n : Nat) (X l : List Int) : Bool := decide ((dec X).2 = 0 ∨ X.length ≤ (dec X).2 ∨ (dec X).1 = 0 ∨ n - l.length < (dec X).1 ∨ l.getLast? = some (X.getD (dec X).2 0))
def getG : Nat → Nat → List Int → List Int → Option (List Int × List Int)
  | 0, _, _, _ => none
  | f + 1, n, X, l =>
    if l.length < n then
      if bad n X l = true then none else getG f n (X.drop ((dec X).2 + 1)) (l ++ List.replicate (dec X).1 (X.getD (dec X).2 0))
    else some (l, X)
theorem getG_end (f n : Nat) (X l : List Int) (h : ¬ l.length < n) : getG (f + 1) n X l = some (l, X) := by rw [getG, if_neg h]
theorem getG_bad (f n : Nat) (X l : List Int) (h : l.length < n) (hb : bad n X l = true) : getG (f + 1) n X l = none := by rw [getG, if_pos h, if_pos hb]
theorem getG_go (f n : Nat) (X l : List Int) (h : l.length < n) (hb : bad n X l = false) : getG (f + 1) n X l = getG f n (X.drop ((dec X).2 + 1)) (l ++ List.replicate (dec X).1 (X.getD (dec X).2 0)) := by
  rw [getG, if_pos h, hb]; rfl
theorem bad_false {n : Nat} {X l : List Int} (h : bad n X l = false) : (dec X).2 ≠ 0 ∧ (dec X).2 < X.length ∧ (dec X).1 ≠ 0 ∧ (dec X).1 ≤ n - l.length ∧ l.getLast? ≠ some (X.getD (dec X).2 0) := by
  have h := of_decide_eq_false h
  refine ⟨fun e => h (.inl e), ?_, fun e => h (.inr (.inr (.inl e))), ?_, fun e => h (.inr (.inr (.inr (.inr e))))⟩
  · exact Nat.lt_of_not_le fun e => h (.inr (.inl e))
  · exact Nat.le_of_not_lt fun e => h (.inr (.inr (.inr (.inl e))))
theorem rBytes_cons (m : Nat) (x : Int) (r : List (Nat × Int)) (more : List Int) : rBytes ((m, x) :: r) ++ more = num m ++ (x :: (rBytes r ++ more)) := by
  unfold rBytes
  simp [List.append_assoc]
theorem getD_mid (a : List Int) (x : Int) (b : List Int) : (a ++ x :: b).getD a.length 0 = x := by
  rw [List.getD_eq_getElem?_getD, List.getElem?_append_right (Nat.le_refl _)]; simp
theorem drop_mid (a : List Int) (x : Int) (b : List Int) : (a ++ x :: b).drop (a.length + 1) = b := by
  rw [List.drop_append]; simp
theorem last_rep (l : List Int) (m : Nat) (x : Int) (hm : 1 ≤ m) : (l ++ List.replicate m x).getLast? = some x := by
  obtain ⟨q, rfl⟩ : ∃ q, m = q + 1 := ⟨m - 1, by omega⟩
  rw [List.replicate_succ', ← List.append_assoc]
  simp
/-- There and back: runs that a row has, laid, are read as that row. -/
theorem getG_put : ∀ (r : List (Nat × Int)) (more l : List Int) (f n : Nat), Good l.getLast? r → n < 18446744073709551616 → l.length + (flat r).length = n → r.length < f → getG f n (rBytes r ++ more) l = some (l ++ flat r, more)
  | [], more, l, f, n, hg, hn64, hn, hf => by
    obtain ⟨f, rfl⟩ : ∃ q, f = q + 1 := ⟨f - 1, by omega⟩
    rw [getG_end _ _ _ _ (by simp [flat] at hn; omega)]
    simp [rBytes, flat]
  | (m, x) :: r, more, l, f, n, hg, hn64, hn, hf => by
    obtain ⟨f, rfl⟩ : ∃ q, f = q + 1 := ⟨f - 1, by omega⟩
    obtain ⟨hm, hne, hr⟩ := hg
    have hfl : flat ((m, x) :: r) = List.replicate m x ++ flat r := by simp [flat]
    rw [hfl] at hn ⊢
    rw [List.length_append, List.length_replicate] at hn
    rw [rBytes_cons]
    have hd := dec_num m (x :: (rBytes r ++ more)) (by omega)
    have hp := num_pos m
    have hx := getD_mid (num m) x (rBytes r ++ more)
    have hb : bad n (num m ++ (x :: (rBytes r ++ more))) l = false := by
      refine decide_eq_false ?_
      rw [hd]
      simp only
      rw [hx]
      rintro (h | h | h | h | h)
      · omega
      · rw [List.length_append, List.length_cons] at h; omega
      · omega
      · omega
      · exact hne h
    rw [getG_go _ _ _ _ (by omega) hb, hd]
    simp only
    rw [hx, drop_mid]
    have ih := getG_put r more (l ++ List.replicate m x) f n (by rw [last_rep l m x hm]; exact hr) hn64 (by rw [List.length_append, List.length_replicate]; omega) (by simp only [List.length_cons] at hf; omega)
    rw [ih, List.append_assoc]
/-- What is read as a row is just its bytes. -/
theorem getG_back : ∀ (f n : Nat) (X l l2 rest : List Int), Bytes X → getG f n X l = some (l2, rest) → ∃ r, l2 = l ++ flat r ∧ X = rBytes r ++ rest ∧ Good l.getLast? r ∧ (l.length ≤ n → l2.length = n)
  | 0, _, _, _, _, _, _, h => by simp [getG] at h
  | f + 1, n, X, l, l2, rest, hX, h => by
    by_cases hl : l.length < n
    · cases hb : bad n X l with
      | true => rw [getG_bad _ _ _ _ hl hb] at h; cases h
      | false =>
        rw [getG_go _ _ _ _ hl hb] at h
        obtain ⟨h1, h2, h3, h4, h5⟩ := bad_false hb
        obtain ⟨⟨m, k⟩, hd⟩ : ∃ q, dec X = q := ⟨_, rfl⟩
        rw [hd] at h h1 h2 h3 h4 h5
        simp only at h h1 h2 h3 h4 h5
        obtain ⟨hm, hk, hXe, _, _, _⟩ := dec_back X hX m k hd h1
        obtain ⟨r, e1, e2, e3, e4⟩ := getG_back f n _ _ l2 rest (hX.drop _) h
        refine ⟨(m, X.getD k 0) :: r, ?_, ?_, ?_, ?_⟩
        · rw [e1]; simp [flat]
        · rw [rBytes_cons, ← e2]
          have : X.drop k = X.getD k 0 :: X.drop (k + 1) := by rw [List.drop_eq_getElem_cons h2, List.getD_eq_getElem?_getD, List.getElem?_eq_getElem h2]; rfl
          rw [← this]
          exact hXe
        · rw [last_rep l m _ (by omega)] at e3
          exact ⟨by omega, h5, e3⟩
        · intro _
          exact e4 (by rw [List.length_append, List.length_replicate]; omega)
    · rw [getG_end _ _ _ _ hl] at h
      simp only [Option.some.injEq, Prod.mk.injEq] at h
      obtain ⟨rfl, rfl⟩ := h
      exact ⟨[], by simp [flat], by simp [rBytes], trivial, fun hle => by omega⟩
theorem runs_len (l : List Int) : (runs l).length ≤ l.length := by
  have h : ∀ (r : List (Nat × Int)) (was : Option Int), Good was r → r.length ≤ (flat r).length := by
    intro r
    induction r with
    | nil => intro _ _; simp
    | cons p r ih =>
      intro was hg
      obtain ⟨m, x⟩ := p
      obtain ⟨hm, _, hr⟩ := hg
      have := ih _ hr
      have e : flat ((m, x) :: r) = List.replicate m x ++ flat r := by simp [flat]
      rw [e, List.length_append, List.length_replicate, List.length_cons]
      omega
  have := h (runs l) none (good_runs l)
  rwa [flat_runs] at this
/-- A row's bytes. -/
def row (l : List Int) : List Int := rBytes (runs l)
theorem getG_row (l more : List Int) (hl : l.length < 18446744073709551616) : getG (l.length + 1) l.length (row l ++ more) [] = some (l, more) := by
  have h := getG_put (runs l) more [] (l.length + 1) l.length (good_runs l) hl (by rw [flat_runs]; simp) (by have := runs_len l; omega)
  rw [flat_runs] at h
  exact h
theorem getG_one (n : Nat) (X l rest : List Int) (hX : Bytes X) (h : getG (n + 1) n X [] = some (l, rest)) : l.length = n ∧ X = row l ++ rest := by
  obtain ⟨r, e1, e2, e3, e4⟩ := getG_back _ n X [] l rest hX h
  have e4 := e4 (by simp)
  have hr : runs l = r := by rw [e1, List.nil_append]; exact runs_flat r none e3
  exact ⟨e4, by unfold row; rw [hr]; exact e2⟩
theorem getG_cut (l : List Int) (c : Nat) (hl : l.length < 18446744073709551616) (hb : Bytes (row l)) (hc : c < (row l).length) : getG (l.length + 1) l.length ((row l).take c) [] = none := by
  cases h : getG (l.length + 1) l.length ((row l).take c) [] with
  | none => rfl
  | some q =>
    exfalso
    obtain ⟨l2, rest⟩ := q
    obtain ⟨h1, h2⟩ := getG_one _ _ l2 rest (hb.take c) h
    have h3 : row l = row l2 ++ (rest ++ (row l).drop c) := by
      rw [← List.append_assoc, ← h2, List.take_append_drop]
    have h4 := getG_row l2 (rest ++ (row l).drop c) (by omega)
    have h5 := getG_row l [] hl
    rw [List.append_nil] at h5
    rw [← h3, h1, h5] at h4
    simp only [Option.some.injEq, Prod.mk.injEq] at h4
    have h6 : (rest ++ (row l).drop c).length = 0 := by rw [← h4.2]; rfl
    rw [List.length_append, List.length_drop] at h6
    omega
theorem row_bytes (l : List Int) (hb : Bytes l) (hl : l.length < 18446744073709551616) : Bytes (row l) := by
  have h : ∀ (r : List (Nat × Int)) (was : Option Int), Good was r → Bytes (flat r) → (flat r).length < 18446744073709551616 → Bytes (rBytes r) := by
    intro r
    induction r with
    | nil => intro _ _ _ _; exact Bytes.nil
    | cons p r ih =>
      intro was hg hbb hll
      obtain ⟨m, x⟩ := p
      obtain ⟨hm, _, hr⟩ := hg
      have e : flat ((m, x) :: r) = List.replicate m x ++ flat r := by simp [flat]
      rw [e] at hbb hll
      rw [List.length_append, List.length_replicate] at hll
      have e2 := rBytes_cons m x r []
      rw [List.append_nil, List.append_nil] at e2
      rw [e2]
      refine (num_bytes m (by omega)).append (Bytes.mk ?_ (ih _ hr hbb.right (by omega)))
      exact hbb x (List.mem_append_left _ (by rw [List.mem_replicate]; exact ⟨by omega, rfl⟩))
  have := h (runs l) none (good_runs l)
  rw [flat_runs] at this
  exact this hb hl
end Go.Proofs.Ytijdjpcmndjbcaa.RU

namespace Go.Proofs.Ytijdjpcmndjbcaa.RU
open Go.RowKit Go.Shelf Go.Proofs.YtijdjpcmndjbcaaW.PrintWords Go.Proofs.YtijdjpcmndjbcaaW.PrintLast Go.Proofs.YtijdjpcmndjbcaaW.PrintMore Go.Proofs.Ytijdjpcmndjbcaa.CD Go.Proofs.Ytijdjpcmndjbcaa.BR
attribute [local go_sem] Oper.semAt_some
set_option linter.unusedVariables false
set_option linter.unusedSimpArgs false
/-- The run of that number. -/
def runAt (l : List Int) (i : Nat) : Nat × Int := (runs l).getD i (0, 0)
/-- What a round keeps: what lay below, and the box of the row. -/
def KE (n₀ B : Nat) (W W' : World) : Prop := Below n₀ W W' ∧ W'.heap[B]? = W.heap[B]?
theorem KE.t {n₀ B : Nat} {X Y Z : World} (h : KE n₀ B X Y) (k : KE n₀ B Y Z) : KE n₀ B X Z := ⟨h.1.trans k.1, k.2.trans h.2⟩
theorem KE.b {n₀ B : Nat} {w : World} (hn : n₀ ≤ w.heap.size) (hB : B < w.heap.size) (W : World) (l : Nat) (o o' : Obj) (hl : w.heap.size ≤ l) (h : W.heap[l]? = some o) (hc : o.isCells = false) (hw : o.isWalk = false) : KE n₀ B W (W.putObj l o') :=
  ⟨belowK_b hn W l o o' hl h hc hw, World.putObj_heap_other (by omega)⟩
theorem runF_ne : ∀ (l : List Int) (n : Nat) (x : Int), ∃ m r, runF n x l = (m, x) :: r ∧ n ≤ m
  | [], n, x => ⟨n, [], rfl, Nat.le_refl _⟩
  | y :: l, n, x => by
    simp only [runF]
    split
    · obtain ⟨m, r, h, hm⟩ := runF_ne l (n + 1) x
      exact ⟨m, r, h, by omega⟩
    · exact ⟨n, _, rfl, Nat.le_refl _⟩
theorem runs_drop (l : List Int) (f : Nat) (hf : f < l.length) : runs (l.drop f) = runF 1 (l.getD f 0) (l.drop (f + 1)) := by
  rw [List.drop_eq_getElem_cons hf, List.getD_eq_getElem?_getD, List.getElem?_eq_getElem hf]; rfl
theorem runF_same (l : List Int) (n t : Nat) (x : Int) (ht : t < l.length) (hx : l.getD t 0 = x) : runF n x (l.drop t) = runF (n + 1) x (l.drop (t + 1)) := by
  rw [List.drop_eq_getElem_cons ht]
  rw [List.getD_eq_getElem?_getD, List.getElem?_eq_getElem ht] at hx
  change l[t] = x at hx
  simp only [runF]
  rw [if_pos hx]
theorem runF_other (l : List Int) (n t : Nat) (x : Int) (ht : t < l.length) (hx : l.getD t 0 ≠ x) : runF n x (l.drop t) = (n, x) :: runs (l.drop t) := by
  rw [runs_drop l t ht, List.drop_eq_getElem_cons ht]
  rw [List.getD_eq_getElem?_getD, List.getElem?_eq_getElem ht] at hx ⊢
  change l[t] ≠ x at hx
  simp only [runF]
  rw [if_neg hx]; rfl
theorem runF_end (l : List Int) (n t : Nat) (x : Int) (ht : ¬ t < l.length) : runF n x (l.drop t) = (n, x) :: runs (l.drop t) := by
  rw [List.drop_of_length_le (by omega)]; rfl
theorem runAt_of {l : List Int} {k n : Nat} {x : Int} {r : List (Nat × Int)} (h : runs l = (List.range k).map (runAt l) ++ (n, x) :: r) : runAt l k = (n, x) ∧ k < (runs l).length := by
  have h1 : ((List.range k).map (runAt l)).length = k := by simp
  constructor
  · unfold runAt
    rw [h, List.getD_eq_getElem?_getD, List.getElem?_append_right (by omega), h1]
    simp
  · rw [h, List.length_append, h1]; simp
theorem runs_all (l : List Int) : (List.range (runs l).length).map (runAt l) = runs l := by
  apply List.ext_getElem
  · simp
  · intro i h1 h2
    simp [runAt, List.getD_eq_getElem?_getD, h2]

theorem reads_n0 {w w1 : World} {k : IntKind} {A : Option Addr} {n n₀ : Nat} {xs : List Int} (h : ReadsInt w k A n xs) (hb : Below n₀ w w1) (hbl : ∀ ad, A = some ad → 0 < n → ad.block < n₀) : ReadsInt w1 k A n xs := by
  refine ⟨h.1, h.2.1, fun hn => ?_⟩
  obtain ⟨ad, rfl, hc⟩ := h.2.2 hn
  refine ⟨ad, rfl, fun j hj => (hb.cell (p := ad.add j) ?_).trans (hc j hj)⟩
  rw [add_block]; exact hbl ad rfl hn
set_option maxHeartbeats 400000 in
theorem each_calls (A : Option Addr) (n c : Nat) (w : World) :
    Calls Try.prog 21 #[.slice A n c] w fun e w' => e = .returned (.func (.func 29) #[] #[.pointer (some ⟨w.heap.size, 0, none⟩)]) ∧ w' = w.alloc (.cells #[.slice A n c] 22) := by
  go_enter Try.func21, Try.ntmps21
  go_wp2
  go_ret
  exact ⟨rfl, rfl⟩
set_option maxRecDepth 100000 in
set_option maxHeartbeats 2000000 in
theorem each1_calls (n : Nat) (hn : 1 ≤ n) (L Bn n₀ : Nat) (A : Option Addr) (c : Nat) (l : List Int) (hc : l.length ≤ c) (hbl : ∀ ad, A = some ad → 0 < l.length → ad.block < n₀) (hsm : l.length ≤ 1000000000) (J Jx : List Nat → World → Prop) (W : World)
    (hJ : AbidesFrom W.heap.size J)
    (hY : ∀ pre x W1, J pre W1 → pre.length < (runs l).length → YieldAt Fence.wide (n - 1) Try.prog L #[.int .i64 ((runAt l x).1 : Int), .int .u8 (runAt l x).2] W1 fun e W' =>
      (e = .returned (.bool true) ∧ J (pre ++ [x]) W' ∧ KE n₀ Bn W1 W') ∨ (e = .returned (.bool false) ∧ Jx (pre ++ [x]) W'))
    (hBn : W.heap[Bn]? = some (.cells #[.slice A l.length c] 22 (0, 0))) (hn0 : n₀ ≤ W.heap.size) (hr : ReadsInt W .u8 A l.length l) (h0 : J [] W) :
    CallsIn Fence.wide n Try.prog 29 #[.func (.yield L) #[] #[], .pointer (some ⟨Bn, 0, none⟩)] W fun e W' => (∃ v, e = .returned v) ∧
      ((∃ ys, ys = List.range (runs l).length ∧ J ys W') ∨ (∃ pre, (∃ k, k ≤ (runs l).length ∧ pre = List.range k) ∧ Jx pre W')) := by
  have HR := Lib.hid hr
  clear hr
  refine callsIn_of_wp Try.func29 rfl trivial ?_ rfl
  simp only [Try.ntmps29, List.size_toArray, List.length_cons, List.length_nil, Nat.reduceAdd, Nat.reduceSub, Array.replicate_succ, Array.replicate_zero, List.push_toArray, List.append_toArray, List.nil_append, List.cons_append]
  gi_wp2
  gi_loopw [3] (fun p wr => ∃ f k : Nat, p = .int .i64 (f : Int) ∧ f ≤ l.length ∧ Aside (runs l = (List.range k).map (runAt l) ++ runs (l.drop f)) ∧ J (List.range k) wr ∧ Aside (KE n₀ Bn W wr))
    (fun p _ => l.length - (intOf p).toNat)
  case atStart =>
    exact ⟨0, 0, rfl, Nat.zero_le _, Lib.hid (by simp), h0, Lib.hid ⟨Below.refl _ _, rfl⟩⟩
  case round =>
    obtain ⟨f, k, rfl, hf, HX, hJs, HK⟩ := hrel
    obtain ⟨w0, rfl⟩ : ∃ w0, w0 = wr := ⟨_, rfl⟩
    have hBr : w0.cell? ⟨Bn, 0, none⟩ = some (.slice A l.length c) := Boxed.cell (t := 22) (HK.out.2.trans hBn)
    by_cases hlt : f < l.length
    · have hd := decide_eq_true (show (f : Int) < (l.length : Int) by omega)
      gi_wp2
      gi_loopw [4] (fun p wr => ∃ t : Nat, p = .int .i64 (t : Int) ∧ f < t ∧ t ≤ l.length ∧ Aside (runs (l.drop f) = runF (t - f) (l.getD f 0) (l.drop t)) ∧ J (List.range k) wr ∧ Aside (KE n₀ Bn w0 wr))
        (fun p _ => l.length - (intOf p).toNat)
      case atStart => exact ⟨f + 1, by simp, by omega, by omega, Lib.hid (by rw [runs_drop l f hlt, show f + 1 - f = 1 by omega]), hJs, Lib.hid ⟨Below.refl _ _, rfl⟩⟩
      case round =>
        obtain ⟨t, rfl, ht1, ht2, HX2, hJ2, HK2⟩ := hrel
        have hB2 : wr.cell? ⟨Bn, 0, none⟩ = some (.slice A l.length c) := Boxed.cell (t := 22) (HK2.out.2.trans (HK.out.2.trans hBn))
        have hr2 := reads_n0 HR.out (HK.out.1.trans HK2.out.1) hbl
        obtain ⟨ad, eA, hcf⟩ := hr2.at_ (f : Int) (by omega) (by omega)
        cases eA
        rw [Int.toNat_natCast] at hcf
        have p3 : (0 ≤ (f : Int)) = True := eq_true (by omega)
        have p4 : ((f : Int) < (l.length : Int)) = True := eq_true (by omega)
        by_cases hgo : t < l.length ∧ l.getD t 0 = l.getD f 0
        · obtain ⟨hlt2, hx⟩ := hgo
          have hd2 := decide_eq_true (show (t : Int) < (l.length : Int) by omega)
          obtain ⟨ad', eA, hct⟩ := hr2.at_ (t : Int) (by omega) (by omega)
          cases eA
          rw [Int.toNat_natCast] at hct
          have p1 : (0 ≤ (t : Int)) = True := eq_true (by omega)
          have p2 : ((t : Int) < (l.length : Int)) = True := eq_true (by omega)
          have hbq : (rd l (t : Int) == rd l (f : Int)) = true := beq_iff_eq.mpr hx
          clear hr2
          gi_wp2
          refine wpIn_wide.2 ?_
          go_region
          gi_wp2
          go_roundw
          case rel => exact ⟨t + 1, by simp, by omega, by omega, Lib.hid (by rw [HX2.out, runF_same l (t - f) t _ hlt2 hx, show t + 1 - f = t - f + 1 by omega]), hJ _ _ _ none hJ2 (gdrew (World.grownBy.refl _ _)) (by simp), Lib.hid ⟨below_drew HK2.out.1, HK2.out.2⟩⟩
          case measure => simp [intOf]; omega
        · have HF : runs l = (List.range k).map (runAt l) ++ (t - f, l.getD f 0) :: runs (l.drop t) := by
            rw [HX.out, HX2.out]
            by_cases hlt2 : t < l.length
            · rw [runF_other l _ t _ hlt2 (fun e => hgo ⟨hlt2, e⟩)]
            · rw [runF_end l _ t _ hlt2]
          obtain ⟨hat, hkl⟩ := runAt_of HF
          have hHF := Lib.hid HF
          clear HF
          obtain ⟨fn, tmps, assign, body, hy, hR⟩ := hY (List.range k) k wr.drew (hJ _ _ _ none hJ2 (gdrew (World.grownBy.refl _ _)) (by simp)) (by simp; exact hkl)
          rw [hat] at hy
          dsimp only at hy
          rw [show ((t - f : Nat) : Int) = (t : Int) - (f : Int) by omega, show l.getD f 0 = rd l (f : Int) from rfl] at hy
          clear hat
          by_cases hlt2 : t < l.length
          · have hd2 := decide_eq_true (show (t : Int) < (l.length : Int) by omega)
            obtain ⟨ad', eA, hct⟩ := hr2.at_ (t : Int) (by omega) (by omega)
            cases eA
            rw [Int.toNat_natCast] at hct
            have p1 : (0 ≤ (t : Int)) = True := eq_true (by omega)
            have p2 : ((t : Int) < (l.length : Int)) = True := eq_true (by omega)
            have hbq : (rd l (t : Int) == rd l (f : Int)) = false := beq_eq_false_iff_ne.mpr (fun e => hgo ⟨hlt2, e⟩)
            clear hr2
            gi_wp2
            refine wpIn_wide.2 ?_
            go_region
            gi_wp2
            refine hR.mono ?_
            rintro e W3 (⟨rfl, hJ3, hk3⟩ | ⟨rfl, hJx3⟩)
            · gi_wp2
              go_roundw
              case rel => exact ⟨t, k + 1, rfl, by omega, Lib.hid (by rw [hHF.out, List.range_succ, List.map_append, List.map_singleton, (runAt_of hHF.out).1, List.append_assoc]; rfl), by rw [List.range_succ]; exact hJ3, Lib.hid (HK.out.t (KE.t ⟨below_drew HK2.out.1, HK2.out.2⟩ hk3))⟩
              case measure => simp [intOf]; omega
            · gi_wp2
              refine bodyPost_ret (results_none rfl _ _ _) rfl ?_
              exact ⟨⟨_, rfl⟩, .inr ⟨_, ⟨k + 1, hkl, (List.range_succ).symm⟩, hJx3⟩⟩
          · have hd2 := decide_eq_false (show ¬ (t : Int) < (l.length : Int) by omega)
            clear hr2
            gi_wp2
            refine wpIn_wide.2 ?_
            go_region
            gi_wp2
            refine hR.mono ?_
            rintro e W3 (⟨rfl, hJ3, hk3⟩ | ⟨rfl, hJx3⟩)
            · gi_wp2
              go_roundw
              case rel => exact ⟨t, k + 1, rfl, by omega, Lib.hid (by rw [hHF.out, List.range_succ, List.map_append, List.map_singleton, (runAt_of hHF.out).1, List.append_assoc]; rfl), by rw [List.range_succ]; exact hJ3, Lib.hid (HK.out.t (KE.t ⟨below_drew HK2.out.1, HK2.out.2⟩ hk3))⟩
              case measure => simp [intOf]; omega
            · gi_wp2
              refine bodyPost_ret (results_none rfl _ _ _) rfl ?_
              exact ⟨⟨_, rfl⟩, .inr ⟨_, ⟨k + 1, hkl, (List.range_succ).symm⟩, hJx3⟩⟩
    · have hd := decide_eq_false (show ¬ (f : Int) < (l.length : Int) by omega)
      gi_wp2
      go_end0
      have e0 : List.range k = List.range (runs l).length := by
        have := HX.out
        rw [List.drop_of_length_le (by omega)] at this
        have h2 := congrArg List.length this
        rw [List.length_append, List.length_map, List.length_range] at h2
        rw [h2]
        rfl
      exact ⟨⟨_, rfl⟩, .inl ⟨_, rfl, e0 ▸ hJs⟩⟩
/-- The iterator's contract. -/
theorem each_stops (n : Nat) (hn : 1 ≤ n) (Bn n₀ : Nat) (A : Option Addr) (c : Nat) (l : List Int) (hc : l.length ≤ c) (hbl : ∀ ad, A = some ad → 0 < l.length → ad.block < n₀) (hsm : l.length ≤ 1000000000) (w : World)
    (hBn : w.heap[Bn]? = some (.cells #[.slice A l.length c] 22 (0, 0))) (hn0 : n₀ ≤ w.heap.size) (hr : ReadsInt w .u8 A l.length l) :
    SeqStopsK Fence.wide n Try.prog 29 #[.pointer (some ⟨Bn, 0, none⟩)] (fun x : Nat => #[Value.int .i64 ((runAt l x).1 : Int), .int .u8 (runAt l x).2]) (KE n₀ Bn) (fun ys => ys = List.range (runs l).length)
      (fun pre => ∃ k, k ≤ (runs l).length ∧ pre = List.range k) (runs l).length w := fun L J Jx W hW hJ _ hY h0 =>
  each1_calls n hn L Bn n₀ A c l hc hbl hsm J Jx W hJ hY ((hW.block Bn (Array.getElem?_eq_some_iff.1 hBn).1).trans hBn) (Nat.le_trans hn0 hW.size) (hr.below hW) h0
end Go.Proofs.Ytijdjpcmndjbcaa.RU

namespace Go.Proofs.Ytijdjpcmndjbcaa.BS
open Go.RowKit Go.Proofs.YtijdjpcmndjbcaaW.PrintWords Go.Proofs.YtijdjpcmndjbcaaW.PrintLast Go.Proofs.YtijdjpcmndjbcaaW.PrintMore Go.Proofs.Ytijdjpcmndjbcaa.CD
set_option linter.unusedVariables false
set_option linter.unusedSimpArgs false
theorem bytes_bytesOf (s : ByteArray) : Bytes (bytesOf s) := fun x hx => by
  unfold bytesOf at hx
  obtain ⟨b, _, rfl⟩ := List.mem_map.1 hx
  have := b.toNat_lt
  omega
theorem str_bytesOf (s : ByteArray) : strOfNums (bytesOf s) = s := by
  have h : ((bytesOf s).map fun n => UInt8.ofNat n.toNat) = s.data.toList := by
    unfold bytesOf
    rw [List.map_map]
    refine (List.map_congr_left (g := id) fun b _ => ?_).trans (List.map_id _)
    simp
  unfold strOfNums
  rw [h]
theorem bytesOf_str (l : List Int) (h : Bytes l) : bytesOf (strOfNums l) = l := by
  unfold bytesOf strOfNums
  rw [List.map_map]
  refine (List.map_congr_left (g := id) fun x hx => ?_).trans (List.map_id _)
  obtain ⟨h0, h1⟩ := h x hx
  simp only [Function.comp_apply, id]
  rw [UInt8.toNat_ofNat', Nat.mod_eq_of_lt (by omega)]
  omega
theorem str_inj {l m : List Int} (hl : Bytes l) (hm : Bytes m) (h : strOfNums l = strOfNums m) : l = m := by rw [← bytesOf_str l hl, h, bytesOf_str m hm]
theorem bytesOf_inj {s t : ByteArray} (h : bytesOf s = bytesOf t) : s = t := by rw [← str_bytesOf s, h, str_bytesOf t]
theorem loop_eq (s : ByteArray) : ∀ (d i : Nat) (r : List UInt8), d = s.size - i → ByteArray.toList.loop s i r = r.reverse ++ s.data.toList.drop i := by
  intro d
  induction d with
  | zero =>
    intro i r h
    unfold ByteArray.toList.loop
    have : ¬ i < s.size := by omega
    rw [if_neg this, List.drop_eq_nil_of_le (by rw [Array.length_toList]; show s.size ≤ i; omega)]
    simp
  | succ d ih =>
    intro i r h
    unfold ByteArray.toList.loop
    have hi : i < s.size := by omega
    rw [if_pos hi, ih (i + 1) _ (by omega)]
    have hi' : i < s.data.toList.length := by rw [Array.length_toList]; exact hi
    rw [List.drop_eq_getElem_cons hi']
    simp [ByteArray.get!, hi]
theorem toList_eq (s : ByteArray) : s.toList = s.data.toList := by
  have := loop_eq s s.size 0 [] rfl
  simpa [ByteArray.toList] using this
theorem toList_inj {s t : ByteArray} (h : s.toList = t.toList) : s = t := by
  rw [toList_eq, toList_eq] at h
  exact ByteArray.ext (Array.toList_inj.1 h)
theorem beq_same (s : ByteArray) : (s.toList == s.toList) = true := beq_self_eq_true _
theorem beq_of {s t : ByteArray} (h : s = t) : (s.toList == t.toList) = true := by rw [h]; exact beq_self_eq_true _
theorem beq_not {s t : ByteArray} (h : s ≠ t) : (s.toList == t.toList) = false := beq_eq_false_iff_ne.2 (fun e => h (toList_inj e))
theorem size_bytesOf (s : ByteArray) : (bytesOf s).length = s.size := bytesOf_length s
theorem size_str (l : List Int) : (strOfNums l).size = l.length := by
  show (strOfNums l).data.size = _
  simp [strOfNums]
theorem str_append (l m : List Int) : strOfNums l ++ strOfNums m = strOfNums (l ++ m) := by
  apply ByteArray.ext
  simp [strOfNums, ByteArray.data_append]
theorem append_data (s t : ByteArray) : (s ++ t).data = s.data ++ t.data := ByteArray.data_append
theorem bytesOf_append (s t : ByteArray) : bytesOf (s ++ t) = bytesOf s ++ bytesOf t := by
  unfold bytesOf
  rw [append_data]
  simp
theorem str_append_left (s : ByteArray) (m : List Int) : s ++ strOfNums m = strOfNums (bytesOf s ++ m) := by
  rw [← str_append, str_bytesOf]
theorem bytesOf_extract (s : ByteArray) (a b : Nat) : bytesOf (s.extract a b) = ((bytesOf s).take b).drop a := by
  unfold bytesOf
  rw [ByteArray.data_extract]
  simp [List.map_take, List.map_drop, List.drop_take, List.extract_eq_take_drop]
theorem extract_str (s : ByteArray) (b : Nat) : s.extract 0 b = strOfNums ((bytesOf s).take b) := by
  rw [← str_bytesOf (s.extract 0 b), bytesOf_extract]
  simp
end Go.Proofs.Ytijdjpcmndjbcaa.BS

namespace Go.Proofs.Ytijdjpcmndjbcaa.BP
open Go.RowKit Go.Proofs.YtijdjpcmndjbcaaW.PrintWords Go.Proofs.YtijdjpcmndjbcaaW.PrintLast Go.Proofs.YtijdjpcmndjbcaaW.PrintMore Go.Proofs.Ytijdjpcmndjbcaa.CD Go.Proofs.Ytijdjpcmndjbcaa.BR
set_option linter.unusedVariables false
set_option linter.unusedSimpArgs false
theorem put_calls (A : Option Addr) (c : Nat) (l : List Int) (n : Nat) (w : World) (hr : ReadsInt w .u8 A l.length l) (hc : l.length ≤ c) (hn : n < 18446744073709551616) (hl : l.length < 140737488355000) :
    Calls Try.prog 22 #[.slice A l.length c, .int .u64 (n : Int)] w fun e w' => ∃ v, e = .returned v ∧ OB w' w.heap.size v (l ++ num n) ∧ Below w.heap.size w w' :=
  (PRunsGet.bytes_Put.calls 12 A c l (n : Int) _ w (Kd.C_of_reads (d := (0 : Int)) (h1 := fun _ => rfl) hr) hc (CF.put_f n l hn hl)).mono fun e w' ⟨v, he, hR, hb⟩ => ⟨v, he, OB.of_R hR, hb⟩
theorem put_nil (n : Nat) (w : World) (hn : n < 18446744073709551616) :
    Calls Try.prog 22 #[.slice none 0 0, .int .u64 (n : Int)] w fun e w' => ∃ v, e = .returned v ∧ OB w' w.heap.size v (num n) ∧ Below w.heap.size w w' :=
  put_calls none 0 [] n w ⟨rfl, by decide, fun h => absurd h (by decide)⟩ (Nat.le_refl _) hn (by decide)
end Go.Proofs.Ytijdjpcmndjbcaa.BP

namespace Go.Proofs.Ytijdjpcmndjbcaa.BR
open Go.RowKit Go.Proofs.YtijdjpcmndjbcaaW.PrintWords Go.Proofs.YtijdjpcmndjbcaaW.PrintLast Go.Proofs.YtijdjpcmndjbcaaW.PrintMore
theorem OB.form {w : World} {base : Nat} {A : Option Addr} {n c : Nat} {l : List Int} (h : OB w base (.slice A n c) l) (hl : 0 < l.length) : ∃ g, A = some ⟨g, 0, none⟩ ∧ base ≤ g ∧ g < w.heap.size := by
  rcases h.2 with ⟨h', hn⟩ | ⟨g, cap, cur, h', hb, hh, _⟩
  · omega
  · injection h' with h'
    refine ⟨g, h', hb, ?_⟩
    have := World.ownsRow.lt h g (by rw [h']; rfl)
    exact this.2
theorem OB.at_ {W : World} {base g c : Nat} {l : List Int} (h : OB W base (.slice (some ⟨g, 0, none⟩) l.length c) l) (j : Nat) (hj : j < l.length) : W.cell? ⟨g, j, none⟩ = some (.int .u8 (rd l j)) ∧ W.frozen? ⟨g, j, none⟩ = false := own_at h (j : Int) (by omega) (by omega)
theorem OB.store {W : World} {base g c : Nat} {l : List Int} (h : OB W base (.slice (some ⟨g, 0, none⟩) l.length c) l) (j : Nat) (x : Int) :
    OB (W.setCell ⟨g, j, none⟩ (.int .u8 x)) base (.slice (some ⟨g, 0, none⟩) (l.set j x).length c) (l.set j x) := by
  have := (own_store h (j : Int) x).1
  simp only [OB, List.length_set]
  exact this
theorem reads_grown {w W : World} {k : IntKind} {A : Option Addr} {n g : Nat} {xs : List Int} (h : ReadsInt w k A n xs) (hg : w.grownBy W (some g)) (hf : ∀ ad, A = some ad → 0 < n → ad.block ≠ g) : ReadsInt W k A n xs := by
  refine ⟨h.1, h.2.1, fun hn => ?_⟩
  obtain ⟨ad, rfl, hc⟩ := h.2.2 hn
  exact ⟨ad, rfl, fun j hj => hg.cell (hc j hj) (fun e => hf ad rfl hn (by injection e with e; rw [add_block] at e; exact e))⟩
theorem OB.grown {w W : World} {base : Nat} {v : Value} {l : List Int} {g : Nat} (h : OB w base v l) (hg : w.grownBy W (some g)) (hf : v.ownBlock ≠ some g) : OB W base v l := by
  refine ⟨h.1, ?_⟩
  rcases h.2 with h' | ⟨b, cap, cur, hv, hb, hh, hr⟩
  · exact .inl h'
  · refine .inr ⟨b, cap, cur, hv, hb, ?_, hr⟩
    have hlt := World.ownsRow.lt h b (by rw [hv]; rfl)
    rw [hg.block b hlt.2 (fun e => hf (by rw [hv]; exact e))]
    exact hh
end Go.Proofs.Ytijdjpcmndjbcaa.BR

namespace Go.Proofs.Ytijdjpcmndjbcaa.RU
open Go.RowKit Go.Shelf Go.Proofs.YtijdjpcmndjbcaaW.PrintWords Go.Proofs.YtijdjpcmndjbcaaW.PrintLast Go.Proofs.YtijdjpcmndjbcaaW.PrintMore Go.Proofs.Ytijdjpcmndjbcaa.CD Go.Proofs.Ytijdjpcmndjbcaa.BR
attribute [local go_sem] Oper.semAt_some
set_option linter.unusedVariables false
set_option linter.unusedSimpArgs false
/-- What has been laid behind so many runs. -/
def laid (l : List Int) (pre : List Nat) : List Int := rBytes (pre.map (runAt l))
theorem laid_snoc (l : List Int) (pre : List Nat) (x : Nat) : laid l (pre ++ [x]) = laid l pre ++ num (runAt l x).1 ++ [(runAt l x).2] := by
  unfold laid rBytes; simp
theorem laid_len (l : List Int) : ∀ pre : List Nat, (laid l pre).length ≤ 11 * pre.length
  | [] => by simp [laid, rBytes]
  | x :: pre => by
    have h1 := laid_len l pre
    have h2 := num_le (runAt l x).1
    have e : laid l (x :: pre) = num (runAt l x).1 ++ [(runAt l x).2] ++ laid l pre := by unfold laid rBytes; simp
    rw [e, List.length_append, List.length_append, List.length_cons, List.length_cons, List.length_nil]
    omega
theorem runF_le : ∀ (l : List Int) (n : Nat) (x : Int), ∀ p ∈ runF n x l, p.1 ≤ n + l.length
  | [], n, x, p, h => by simp [runF] at h; subst h; simp
  | y :: l, n, x, p, h => by
    simp only [runF] at h
    split at h
    · have := runF_le l (n + 1) x p h
      simp only [List.length_cons]; omega
    · rcases List.mem_cons.1 h with rfl | h
      · simp only [List.length_cons]; omega
      · have := runF_le l 1 y p h
        simp only [List.length_cons]; omega
theorem runs_le (l : List Int) (p : Nat × Int) (h : p ∈ runs l) : p.1 ≤ l.length := by
  cases l with
  | nil => cases h
  | cons x l => have := runF_le l 1 x p h; simp only [List.length_cons]; omega
theorem runAt_le (l : List Int) (x : Nat) : (runAt l x).1 ≤ l.length := by
  unfold runAt
  by_cases h : x < (runs l).length
  · rw [List.getD_eq_getElem?_getD, List.getElem?_eq_getElem h]
    exact runs_le l _ (List.getElem_mem h)
  · rw [List.getD_eq_getElem?_getD, List.getElem?_eq_none (by omega)]; simp
theorem keeps_below {W W' : World} (h : Below W.heap.size W W') : KeepsOthers W W' := KeepsOthers.of_grownBy (gofBelow (row := none) h) (fun j o e => by cases e)
set_option maxRecDepth 100000 in
set_option maxHeartbeats 2000000 in
theorem rput_calls (A : Option Addr) (c : Nat) (l : List Int) (w : World) (hr : ReadsInt w .u8 A l.length l) (hc : l.length ≤ c) (hsm : l.length ≤ 1000000000) (hbl : ∀ ad, A = some ad → 0 < l.length → ad.block < w.heap.size) :
    Calls Try.prog 10 #[.slice A l.length c] w fun e w' => ∃ v, e = .returned v ∧ OB w' w.heap.size v (row l) ∧ Below w.heap.size w w' := by
  obtain ⟨i0, hi, hz0, hz1, hz2⟩ := info_parts infoU8
  refine (callsIn_wide (n := 9)).1 ?_
  refine callsIn_of_wp_marks Try.func10 rfl trivial ?_ rfl
  simp only [Try.ntmps10, List.size_toArray, List.length_cons, List.length_nil, Nat.reduceAdd, Nat.reduceSub, Array.replicate_succ, Array.replicate_zero, List.push_toArray, List.append_toArray, List.nil_append, List.cons_append]
  gi_wp2_with (refine ⟨trivial, ?_⟩; gi_at_call 21; refine (callsIn_wide.2 (each_calls _ _ _ _)).mono ?_; rintro e w' ⟨rfl, rfl⟩)
  have bO := Boxed.new w 22 (.slice none 0 0)
  have bN := Boxed.new (w.alloc (.cells #[.slice none 0 0] 22)) 22 (.slice A l.length c)
  rw [World.size_alloc] at bN
  have hB0 : Below w.heap.size w ((w.alloc (.cells #[.slice none 0 0] 22)).alloc (.cells #[.slice A l.length c] 22)) := ((Below.refl _ w).alloc (Nat.le_refl _) _).alloc (by simp) _
  obtain ⟨w0, hw0⟩ : ∃ w0, w0 = (w.alloc (.cells #[.slice none 0 0] 22)).alloc (.cells #[.slice A l.length c] 22) := ⟨_, rfl⟩
  have hs0 : w0.heap.size = w.heap.size + 1 + 1 := by rw [hw0]; simp
  have bO := bO.alloc (.cells #[.slice A l.length c] 22)
  rw [← hw0] at bO bN hB0 ⊢
  have HR := Lib.hid (hr.below hB0)
  clear hr hw0
  refine wpIn_rangeFunc_ownF (F := Fence.wide) (n := 9) rfl (by decide) (gf := 29) (lb := #[.pointer (some ⟨w.heap.size + 1, 0, none⟩)]) rfl trivial (enters_of Try.func29 (by kernel_rfl) rfl)
    (each_stops 8 (by decide) (w.heap.size + 1) w.heap.size A c l hc hbl hsm w0 bN (by omega) HR.out) (fun h k => h.t k) (KE.b (by omega) (by omega)) (Below.refl _ _) (fun _ => rfl)
    (fun pre W => ((∃ v, Boxed W w.heap.size 22 v ∧ W.ownsRow w.heap.size 5 1 v (laid l pre).length (nums .u8 (laid l pre)) ∧ True) ∧ w0.heap.size ≤ W.heap.size) ∧ Below w.heap.size w W)
    (fun _ _ _ => False)
    (OwnFrom.and (OwnFrom.and (Own.from (holdsRow_own w.heap.size w.heap.size 22 5 1 (fun pre => (laid l pre).length) (fun pre => nums .u8 (laid l pre)) (fun _ _ => True)) _) (fun s X Y row hs hg hr => Nat.le_trans hs hg.size)) (ownFrom_below (Nat.le_refl _) (by omega)))
    (fun _ _ _ _ _ hs _ _ => hs)
    ⟨⟨⟨_, bO, World.ownsRow_nil _ _ _ _, trivial⟩, Nat.le_refl _⟩, hB0⟩
    (fun x => { tmps := #[.slice A l.length c, undef, .pointer (some ⟨w.heap.size, 0, none⟩), .int .i64 ((runAt l x).1 : Int), .int .u8 (runAt l x).2, .slice A l.length c, .func (.func 29) #[] #[.pointer (some ⟨w.heap.size + 1, 0, none⟩)], .int .i64 ((runAt l x).1 : Int), .int .u8 (runAt l x).2, undef, undef, undef, undef, undef, undef, undef, undef], defers := [] }) ?assign ?body ?done ?stop
  case assign =>
    intro L x W K hK
    gi_wp2
    exact hK
  case body =>
    rintro L pre x W ⟨⟨⟨v, hv, hrow, _⟩, hsW⟩, hB⟩ hlt
    have hc0 := hv.cell
    have hf0 := hv.frozen
    have hn := runAt_le l x
    have hll := laid_len l pre
    have hN := runs_len l
    have hww : IntKind.u64.wrap ((runAt l x).1 : Int) = ((runAt l x).1 : Int) := CF.wu64_id _ (by omega) (by omega)
    obtain ⟨Ab, cb, rfl, hcb, hrb⟩ := OB.slice (show OB W w.heap.size v (laid l pre) from hrow)
    have HV := Lib.hid hv
    have HP := Lib.hid (BP.put_calls Ab cb (laid l pre) (runAt l x).1 W hrb hcb (by omega) (by omega))
    have HB := Lib.hid hB
    clear hrow hB hrb hcb hv
    have hnl := num_le (runAt l x).1
    obtain ⟨acc, hacc⟩ : ∃ acc, laid l pre ++ num (runAt l x).1 = acc := ⟨_, rfl⟩
    have hal : acc.length ≤ 11 * pre.length + 10 := by rw [← hacc, List.length_append]; omega
    have HA := Lib.hid hacc
    rw [hacc] at HP
    clear hacc
    gi_wp2_with (first
      | (refine ⟨trivial, ?_⟩; gi_at_call 22; refine (CallsIn.inRound L (callsIn_wide.2 HP.out)).mono ?_; rintro e w1 ⟨v1, rfl, ho1, hb1⟩; have HO1 := Lib.hid ho1; have HB1 := Lib.hid hb1; clear ho1 hb1)
      | (gi_at_builtin; refine wpListIn_append_own _ rfl _ _ 22 rfl W.heap.size 5 i0 (.int .u8 0) 1 1 Try.underlying22 hi hz0 hz1 hz2 rfl (by decide) v1 acc.length (nums .u8 acc) rfl (OB.below HO1.out (below_alloc (Below.refl _ _) _)) ⟨w1.heap.size, 0, none⟩ 1 1 [.int .u8 (runAt l x).2] rfl rfl (cell_one_new _ _ _) (by simp [Value.oneCell']) (by show acc.length + 1 ≤ 9223372036854775807; omega) (by omega) (by have := HB1.out.size; simp; omega) ?_; intro v2 w2 hown2 hgrow _; obtain ⟨g2, cap2, rfl⟩ := ownsRow_succ hown2; have HOW := Lib.hid hown2; have HGR := Lib.hid hgrow; clear hown2 hgrow; have hbw2 : Below W.heap.size W w2 := (HB1.out.alloc HB1.out.size _).grown HGR.out (by have := HB1.out.size; simp; omega) (fun k e => own_base HO1.out k e); have hv2 : Boxed w2 w.heap.size 22 (.slice Ab (laid l pre).length cb) := (hbw2.block w.heap.size (by omega)).trans HV.out; have hc2 := hv2.cell; have hf2 := hv2.frozen; have HB2 := Lib.hid hbw2; have HV2 := Lib.hid hv2; clear hbw2 hv2))
    have hge : W.heap.size ≤ g2 := own_base HOW.out g2 rfl
    refine ⟨(keeps_below HB2.out).trans (KeepsOthers.setCell _ _ _), ⟨(show Below w.heap.size W w2 from HB2.out.mono (by omega)).setCell (p := ⟨w.heap.size, 0, none⟩) (Nat.le_refl _) _, (Below.heap_setCell w2 ⟨w.heap.size, 0, none⟩ _ (w.heap.size + 1) (by simp)).trans (HB2.out.block (w.heap.size + 1) (by omega))⟩, ⟨⟨_, HV2.out.set _, ?_, trivial⟩, ?_⟩, (HB.out.trans (show Below w.heap.size W w2 from HB2.out.mono (by omega))).setCell (p := ⟨w.heap.size, 0, none⟩) (Nat.le_refl _) _⟩
    · rw [laid_snoc, HA.out, nums_append, List.length_append]
      exact own_setCell (own_less HOW.out (by omega)) (p := ⟨w.heap.size, 0, none⟩) (by show some w.heap.size ≠ some g2; intro e; injection e; omega) _
    · have := HB2.out.size
      simp [World.setCell]; omega
  case done =>
    rintro D ys W hD rfl ⟨⟨⟨v, hv, hrow, _⟩, hsW⟩, hB⟩ hK
    obtain ⟨Ab, cb, rfl, hcb, hrb⟩ := OB.slice (show OB W w.heap.size v (laid l (List.range (runs l).length)) from hrow)
    have hc0 := hv.cell
    have hf0 := hv.frozen
    gi_wp2
    have hK' := (KeepsOthers.setCell W ⟨w.heap.size, 0, none⟩ (.slice Ab (laid l (List.range (runs l).length)).length cb)).same D _ hK rfl
    refine ⟨by simp, .inl ⟨_, _, rfl, run_takeDeferred hK', ?_⟩⟩
    have hc5 := cell_kept (World.cell?_setCell_same' W ⟨w.heap.size, 0, none⟩ (.slice Ab (laid l (List.range (runs l).length)).length cb) (by rw [hc0]; rfl)) (grownBy_putObj' _ D (.deferred none)) (fun r e => by cases e; exact ⟨_, hK', rfl⟩)
    have erow : laid l (List.range (runs l).length) = row l := by unfold laid row; rw [runs_all]
    refine ⟨.slice Ab (laid l (List.range (runs l).length)).length cb, by simp [results, Try.f10, go_sem, hc5], _, rfl, ?_, (hB.setCell (p := ⟨w.heap.size, 0, none⟩) (Nat.le_refl _) _).trans (belowK_b (w := w0) (by omega) _ D _ _ hD hK' rfl rfl)⟩
    have h1 : (W.setCell ⟨w.heap.size, 0, none⟩ (.slice Ab (laid l (List.range (runs l).length)).length cb)).ownsRow w.heap.size 5 1 (.slice Ab (laid l (List.range (runs l).length)).length cb) (laid l (List.range (runs l).length)).length (nums .u8 (laid l (List.range (runs l).length))) :=
      own_setCell hrow (p := ⟨w.heap.size, 0, none⟩) (hv.not_row (by decide) hrow) _
    have h2 := ownsRow_putObj h1 (.deferred none) hK' rfl
    rw [erow] at h2 ⊢
    exact h2
  case stop =>
    rintro D c pre W _ _ h _
    exact h.elim
theorem rcount_calls (A : Option Addr) (c : Nat) (l : List Int) (w : World) (hr : ReadsInt w .u8 A l.length l) (hc : l.length ≤ c) (hsm : l.length ≤ 1000000000) (hbl : ∀ ad, A = some ad → 0 < l.length → ad.block < w.heap.size) :
    Calls Try.prog 11 #[.slice A l.length c] w fun e w' => e = .returned (.int .i64 ((runs l).length : Int)) ∧ Below w.heap.size w w' := by
  refine (callsIn_wide (n := 9)).1 ?_
  refine callsIn_of_wp_marks Try.func11 rfl trivial ?_ rfl
  simp only [Try.ntmps11, List.size_toArray, List.length_cons, List.length_nil, Nat.reduceAdd, Nat.reduceSub, Array.replicate_succ, Array.replicate_zero, List.push_toArray, List.append_toArray, List.nil_append, List.cons_append]
  gi_wp2_with (refine ⟨trivial, ?_⟩; gi_at_call 21; refine (callsIn_wide.2 (each_calls _ _ _ _)).mono ?_; rintro e w' ⟨rfl, rfl⟩)
  have bO := Boxed.new w 3 (.int .i64 0)
  have bN := Boxed.new (w.alloc (.cells #[.int .i64 0] 3)) 22 (.slice A l.length c)
  rw [World.size_alloc] at bN
  have hB0 : Below w.heap.size w ((w.alloc (.cells #[.int .i64 0] 3)).alloc (.cells #[.slice A l.length c] 22)) := ((Below.refl _ w).alloc (Nat.le_refl _) _).alloc (by simp) _
  obtain ⟨w0, hw0⟩ : ∃ w0, w0 = (w.alloc (.cells #[.int .i64 0] 3)).alloc (.cells #[.slice A l.length c] 22) := ⟨_, rfl⟩
  have hs0 : w0.heap.size = w.heap.size + 1 + 1 := by rw [hw0]; simp
  have bO := bO.alloc (.cells #[.slice A l.length c] 22)
  rw [← hw0] at bO bN hB0 ⊢
  have HR := Lib.hid (hr.below hB0)
  clear hr hw0
  have hN := runs_len l
  refine wpIn_rangeFunc_ownF (F := Fence.wide) (n := 9) rfl (by decide) (gf := 29) (lb := #[.pointer (some ⟨w.heap.size + 1, 0, none⟩)]) rfl trivial (enters_of Try.func29 (by kernel_rfl) rfl)
    (each_stops 8 (by decide) (w.heap.size + 1) w.heap.size A c l hc hbl hsm w0 bN (by omega) HR.out) (fun h k => h.t k) (KE.b (by omega) (by omega)) (Below.refl _ _) (fun _ => rfl)
    (fun pre W => (W.cell? ⟨w.heap.size, 0, none⟩ = some (.int .i64 (pre.length : Int)) ∧ W.frozen? ⟨w.heap.size, 0, none⟩ = false) ∧ Below w.heap.size w W)
    (fun _ _ _ => False)
    (OwnFrom.and (Own.from (fun s X Y row hs hg hr => ⟨cell_kept hs.1 hg hr, (frozen_kept hs.1 hg hr).trans hs.2⟩) _) (ownFrom_below (Nat.le_refl _) (by omega)))
    (fun _ _ _ _ _ hs _ _ => hs)
    ⟨⟨bO.cell, bO.frozen⟩, hB0⟩
    (fun x => { tmps := #[.slice A l.length c, undef, .pointer (some ⟨w.heap.size, 0, none⟩), .slice A l.length c, .func (.func 29) #[] #[.pointer (some ⟨w.heap.size + 1, 0, none⟩)], .int .i64 ((runAt l x).1 : Int), .int .u8 (runAt l x).2, undef, undef, undef], defers := [] }) ?assign ?body ?done ?stop
  case assign =>
    intro L x W K hK
    gi_wp2
    simpa using hK
  case body =>
    rintro L pre x W ⟨⟨hc0, hf0⟩, hB⟩ hlt
    gi_wp2
    exact ⟨KeepsOthers.setCell _ _ _, ⟨(Below.refl w.heap.size W).setCell (p := ⟨w.heap.size, 0, none⟩) (Nat.le_refl _) _, Below.heap_setCell W ⟨w.heap.size, 0, none⟩ _ (w.heap.size + 1) (by simp)⟩, ⟨by rw [World.cell?_setCell_same' _ _ _ (by rw [hc0]; rfl)]; simp [wrap64], by rw [World.frozen?_setCell]; exact hf0⟩, hB.setCell (p := ⟨w.heap.size, 0, none⟩) (Nat.le_refl _) _⟩
  case done =>
    rintro D ys W hD rfl ⟨⟨hc0, hf0⟩, hB⟩ hK
    rw [List.length_range] at hc0
    gi_wp2
    have hK' := (KeepsOthers.setCell W ⟨w.heap.size, 0, none⟩ (.int .i64 ((runs l).length : Int))).same D _ hK rfl
    refine ⟨by simp, .inl ⟨_, _, rfl, run_takeDeferred hK', ?_⟩⟩
    have hc5 := cell_kept (World.cell?_setCell_same' W ⟨w.heap.size, 0, none⟩ (.int .i64 ((runs l).length : Int)) (by rw [hc0]; rfl)) (grownBy_putObj' _ D (.deferred none)) (fun r e => by cases e; exact ⟨_, hK', rfl⟩)
    exact ⟨.int .i64 ((runs l).length : Int), by simp [results, Try.f11, go_sem, hc5], rfl, (hB.setCell (p := ⟨w.heap.size, 0, none⟩) (Nat.le_refl _) _).trans (belowK_b (w := w0) (by omega) _ D _ _ hD hK' rfl rfl)⟩
  case stop =>
    rintro D c pre W _ _ h _
    exact h.elim
end Go.Proofs.Ytijdjpcmndjbcaa.RU

namespace Go.Proofs.Ytijdjpcmndjbcaa.RU
open Go.RowKit Go.Proofs.YtijdjpcmndjbcaaW.PrintWords Go.Proofs.YtijdjpcmndjbcaaW.PrintLast Go.Proofs.YtijdjpcmndjbcaaW.PrintMore Go.Proofs.Ytijdjpcmndjbcaa.CD Go.Proofs.Ytijdjpcmndjbcaa.BR
attribute [local go_sem] max2_int min2_int max_two min_two max_three min_three max_four min_four
set_option linter.unusedVariables false
set_option linter.unusedSimpArgs false
theorem mask32 (n : Nat) (hn : n < 4294967296) : bits .and .u64 (n : Int) 4294967295 = (n : Int) := by
  have := bits_mask .u64 64 (by decide) (fun n a b => by simp [IntKind.wrap, IntKind.bits, IntKind.signed]; omega) 32 (by decide) (n : Int) (by omega) (by omega)
  rw [show (2 : Int) ^ 32 - 1 = 4294967295 by decide, show (2 : Int) ^ 32 = 4294967296 by decide] at this
  rw [this]; omega
theorem mul_f (k : Nat) (hk : k ≤ 65536) : PRunsGet.bits_Mul.f 1 (k : Int) = some (0, (k : Int)) := by
  unfold PRunsGet.bits_Mul.f PRunsGet.bits_Mul64.f
  have e1 := mask32 k (by omega)
  have e2 : bits .and .u64 (1 : Int) 4294967295 = 1 := mask32 1 (by decide)
  rw [e1, e2]
  have d1 : (1 : Int) / 4294967296 = 0 := by decide
  have d2 : (k : Int) / 4294967296 = 0 := by omega
  rw [d1, d2]
  simp only [Int.zero_mul, Int.mul_zero, Int.one_mul, Option.bind_some]
  have w0 : IntKind.u64.wrap 0 = 0 := by decide
  have wk : IntKind.u64.wrap (k : Int) = (k : Int) := CF.wu64_id _ (by omega) (by omega)
  rw [w0, wk, d2]
  simp only [Int.add_zero, w0]
  have m0 : bits .and .u64 (0 : Int) 4294967295 = 0 := mask32 0 (by decide)
  rw [m0]
  simp [w0]
theorem mul_calls (k : Nat) (w : World) (hk : k ≤ 65536) : Calls Try.prog 25 #[.int .u64 1, .int .u64 (k : Int)] w fun e w' => e = .returned (.tuple #[.int .u64 0, .int .u64 (k : Int)]) ∧ Drawn0 w w' :=
  PRunsGet.bits_Mul.calls 1 (k : Int) 0 (k : Int) w (mul_f k hk)
theorem add_p2 (b o i : Nat) : (⟨b, o, none⟩ : Addr).add i = ⟨b, o + i, none⟩ := by unfold Addr.add; split <;> simp_all
theorem copy_self (w0 wr : World) (h N bp c : Nat) (x : UInt8) (t ty e : TypeId) (hu : Try.prog.underlying t = some (.slice e)) (hs : (Try.prog.info? e).map (·.size) = some 1)
    (hb : Lib.Buf w0 wr h N (List.replicate bp x)) (h0 : 0 < c) (hcb : c ≤ bp) (hbn : bp < N) :
    ∃ wr' m, 1 ≤ m ∧ bp + m ≤ N ∧ (Builtin.copy_ #[t, t] ty #[Lib.tailV h N bp, .slice (some ⟨h, 0, none⟩) c N]).run Try.prog wr = .ok (.int .i64 (m : Int)) wr' ∧ Lib.Buf w0 wr' h N (List.replicate (bp + m) x) := by
  have hfr := hb.fits
  rw [List.length_replicate] at hfr
  obtain ⟨m, hm⟩ : ∃ m, m = min (N - bp) c := ⟨_, rfl⟩
  have hr := run_copy_cells (P := Try.prog) wr t t ty e h bp (N - bp) (N - bp) ⟨h, 0, none⟩ c N (List.replicate m (Value.int .u8 (x.toNat : Int))) hu hs (by rw [List.length_replicate]; show m = min c (N - bp); omega)
    (fun j u hj => by
      rw [List.getElem?_replicate] at hj
      split at hj
      · obtain rfl := Option.some.inj hj
        have := hb.holds j x (by rw [List.getElem?_replicate, if_pos (by omega)])
        rw [add_p2, Nat.zero_add]; exact this
      · exact absurd hj (by simp))
    (fun j hj => by rw [List.length_replicate] at hj; exact hb.there _ (by omega)) (fun j hj => by rw [List.length_replicate] at hj; exact hb.free _ (by omega))
    (fun u hu' => by rw [List.eq_of_mem_replicate hu']; rfl)
  rw [List.length_replicate] at hr
  refine ⟨_, m, by omega, by omega, by unfold Lib.tailV; rw [if_neg (by omega)]; exact hr, ?_⟩
  have hin := World.cell?_setCells_in h (List.replicate m (Value.int .u8 (x.toNat : Int))) bp wr (fun j hj => by rw [List.length_replicate] at hj; exact hb.there _ (by omega))
  have hout := World.cell?_setCells_out h (List.replicate m (Value.int .u8 (x.toNat : Int))) bp wr
  refine ⟨Lib.below_setCells h (Nat.le_refl _) _ _ hb.below, ?_, ?_, ?_, by rw [List.length_replicate]; omega⟩
  · intro j hj
    by_cases h1 : bp ≤ j ∧ j < bp + m
    · obtain ⟨d, rfl⟩ : ∃ d, j = bp + d := ⟨j - bp, by omega⟩
      rw [hin d (by rw [List.length_replicate]; omega)]
      rfl
    · rw [hout ⟨h, j, none⟩ (fun _ _ => by rw [List.length_replicate]; show j < _ ∨ _ ≤ j; omega)]
      exact hb.there j hj
  · intro j hj
    rw [World.frozen?_setCells]
    exact hb.free j hj
  · intro j y hy
    rw [List.getElem?_replicate] at hy
    split at hy
    case isFalse => exact absurd hy (by simp)
    case isTrue hj =>
      obtain rfl := Option.some.inj hy
      by_cases h1 : j < bp
      · rw [hout ⟨h, j, none⟩ (fun _ _ => Or.inl h1)]
        exact hb.holds j x (by rw [List.getElem?_replicate, if_pos h1])
      · obtain ⟨d, rfl⟩ : ∃ d, j = bp + d := ⟨j - bp, by omega⟩
        rw [hin d (by rw [List.length_replicate]; omega)]
        simp [List.getElem_replicate]
theorem step_run {ops : Array Oper} {o : Oper} {a : Act} {w : World} {K : Act → World → Prop} {Q : Exit → Act → World → Prop} {E : Prop} (hgd : o.guard = none) (d s : Operand) (t t' : TypeId)
    (ho : o.op = .call { callee := .builtin .copy, args := #[d, s], argTypes := #[t, t'] }) (v u : Value) (hd : a.eval d = v) (hs : a.eval s = u) {v' : Value} {w' : World}
    (hr : (Builtin.copy_ #[t, t'] o.type #[v, u]).run Try.prog w = .ok v' w') (h : K (a.put o.dst v') w') :
    if Region.wanted o (yielded ops a.tmps) = true then Oper.wp Try.prog o a w K Q else E := by
  rw [if_pos (by simp [Region.wanted, hgd])]
  exact Lib.wp_copy_run w d s t t' ho v u hd hs hr h
theorem buf_drew {w0 wr : World} {h N : Nat} {acc : List UInt8} (hb : Lib.Buf w0 wr h N acc) (n : Nat) : Lib.Buf w0 (wr.drewN n) h N acc :=
  ⟨pw_below_drewN hb.below n, fun j hj => by rw [World.cell?_drewN]; exact hb.there j hj, fun j hj => by rw [World.frozen?_drewN]; exact hb.free j hj, fun j x hx => by rw [World.cell?_drewN]; exact hb.holds j x hx, hb.fits⟩
set_option maxHeartbeats 1000000 in
set_option maxRecDepth 100000 in
theorem repeat_calls (A : Option Addr) (c : Nat) (x : UInt8) (k : Nat) (w : World) (hr : ReadsInt w .u8 A 1 [(x.toNat : Int)]) (hc : 1 ≤ c) (hk1 : 1 ≤ k) (hk : k ≤ 65536) :
    Calls Try.prog 18 #[.slice A 1 c, .int .i64 (k : Int)] w fun e w' => ∃ A' c', e = .returned (.slice A' k c') ∧ k ≤ c' ∧ ReadsInt w' .u8 A' k (List.replicate k (x.toNat : Int)) ∧ Below w.heap.size w w' := by
  have hM := fun (W : World) => Lib.run_makeNoZero (P := Try.prog) W #[3] 22 5 Try.underlying22 k (by omega)
  have kz : ((k : Int) == 0) = false := beq_eq_false_iff_ne.mpr (by omega)
  have kn : decide ((k : Int) < 0) = false := decide_eq_false (by omega)
  have kw : IntKind.u64.wrap (k : Int) = (k : Int) := CF.wu64_id _ (by omega) (by omega)
  obtain ⟨b8, hb8⟩ : ∃ b : Bool, decide (8192 < (k : Int)) = b := ⟨_, rfl⟩
  obtain ⟨ad, rfl, hcell⟩ := hr.2.2 (by omega)
  have HR := Lib.hid hr
  have hcells : ∀ (a : Addr), some ad = some a → ∀ (i : Nat) y, [x][i]? = some y → w.cell? (a.add i) = some (.int .u8 (y.toNat : Int)) := fun a h i y hy => by
    obtain rfl := Option.some.inj h
    match i, hy with
    | 0, hy => simp at hy; subst hy; exact hcell 0 (by omega)
  clear hcell
  clear hr
  cases b8
  all_goals
    go_enter Try.func18, Try.ntmps18
    go_wp2_with fail
    refine (mul_calls k _ hk).mono ?_; rintro e w1 ⟨rfl, ⟨n1, rfl⟩⟩
    obtain ⟨cs, hrunM, hle, hcm⟩ := hM (w.drewN n1)
    have hcall : (callFunc 26 #[.int .i64 (k : Int)]).run Try.prog (w.drewN n1) = .ok (.value (.slice (some ⟨w.heap.size, 0, none⟩) k cs.size)) ((w.alloc (.cells cs 5)).drewN (n1 + 2)) := by
      rw [run_callFunc_extern Try.func26 (by kernel_rfl) (by kernel_rfl) (by kernel_rfl) (e := Extern.BytealgMakeNoZero.makeNoZero #[3] #[22]) (by kernel_rfl), hrunM]
      rfl
    clear hrunM hM
    have i0 : (0 : Int) ≤ (k : Int) := by omega
    have i1 : (k : Int) ≤ (cs.size : Int) := by omega
    have B0 : Lib.Buf w _ w.heap.size k [] := Lib.Buf.start w cs 5 k (n1 + 2) hle
    obtain ⟨w2, hr1, B1⟩ := Lib.copy_part (P := Try.prog) w _ w.heap.size k [] [x] (.slice (some ad) 1 c) 22 3 5 Try.underlying22 (by kernel_rfl) (Nat.le_refl _) B0 ⟨some ad, c, rfl, (fun h => absurd h (by simp)), hcells⟩ (by simp; omega)
    rw [List.length_nil, Lib.tailV_zero] at hr1
    rw [List.nil_append] at B1
    have HB1 := Lib.hid B1
    clear B0 B1
    go_wp2_with (at_builtin; refine Lib.wpList_copy_run _ rfl _ _ 22 22 rfl _ _ rfl rfl hr1 ?_)
    clear hcall hr1
    go_loopg [10] (k : Nat) (fun g s10 wr => ∃ bp : Nat, 1 ≤ bp ∧ bp ≤ k ∧ k - bp ≤ g ∧ s10 = .int .i64 (bp : Int) ∧ Aside (Lib.Buf w wr w.heap.size k (List.replicate bp x)))
    case atStart => exact ⟨1, by omega, by omega, by omega, rfl, HB1⟩
    case round =>
      obtain ⟨bp, hb1, hbk, hg, rfl, HB⟩ := hrel
      by_cases hlt : bp < k
      · have hd := decide_eq_true (show (bp : Int) < (k : Int) by omega)
        have hB := HB.out
        clear HB
        have hsl1 : ∀ W, (Instr.slice 22 (.slice (some ⟨w.heap.size, 0, none⟩) k k) (some (.int .i64 (bp : Int))) none none).run Try.prog W = .ok (Lib.tailV w.heap.size k bp) W := fun W => Lib.run_slice_tailV W 22 5 Try.underlying22 (fun W => by kernel_rfl) w.heap.size k bp (by omega)
        by_cases h8 : (8192 : Int) < (bp : Int)
        · first
          | (exfalso; have := of_decide_eq_false hb8; omega)
          | (have i2 : (8192 : Int) ≤ (k : Int) := by omega
             go_wp2_with fail
             refine start_ (n := 10) (S := fun w' => Lib.Buf w w' w.heap.size k (List.replicate bp x)) (ds := [7]) #[false, false, false, false, false, false, false, false, false, false] (by kernel_rfl) rfl rfl (buf_drew hB 1) (fun hHeld => ?_)
             refine pure_ (i := 0) (N := some 67) (v := ?_) (a' := ?_) #[true, false, false, false, false, false, false, false, false, false] rfl rfl (by kernel_rfl) (fun _ _ _ h => h) (Or.inl ⟨by rfl, ?_⟩) ?_ ?_
             rotate_left
             · intro w'
               go_simp
               with_reducible rfl
             rotate_left
             · simp only [Act.put, List.setIfInBounds_toArray, List.set_cons_zero, List.set_cons_succ, i64_w, i32_w]
               rfl
             refine pure_ (i := 1) (N := some 68) (v := ?_) (a' := ?_) #[true, true, false, false, false, false, false, false, false, false] rfl rfl (by kernel_rfl) (fun _ _ _ h => h) (Or.inl ⟨by rfl, ?_⟩) ?_ ?_
             rotate_left
             · intro w'
               go_simp
               with_reducible rfl
             rotate_left
             · simp only [Act.put, List.setIfInBounds_toArray, List.set_cons_zero, List.set_cons_succ, i64_w, i32_w]
               rfl
             refine pure_ (i := 2) (N := some 69) (v := ?_) (a' := ?_) #[true, true, true, false, false, false, false, false, false, false] rfl rfl (by kernel_rfl) (fun _ _ _ h => h) (Or.inl ⟨by rfl, ?_⟩) ?_ ?_
             rotate_left
             · intro w'
               go_simp
               with_reducible rfl
             rotate_left
             · simp only [Act.put, List.setIfInBounds_toArray, List.set_cons_zero, List.set_cons_succ, i64_w, i32_w]
               rfl
             refine pure_ (i := 3) (N := some 70) (v := ?_) (a' := ?_) #[true, true, true, true, false, false, false, false, false, false] rfl rfl (by kernel_rfl) (fun _ _ _ h => h) (Or.inl ⟨by rfl, ?_⟩) ?_ ?_
             rotate_left
             · intro w'
               go_simp
               with_reducible rfl
             rotate_left
             · simp only [Act.put, List.setIfInBounds_toArray, List.set_cons_zero, List.set_cons_succ, i64_w, i32_w]
               rfl
             refine pure_ (i := 4) (N := some 71) (v := ?_) (a' := ?_) #[true, true, true, true, true, false, false, false, false, false] rfl rfl (by kernel_rfl) (fun _ _ _ h => h) (Or.inl ⟨by rfl, ?_⟩) ?_ ?_
             rotate_left
             · intro w'
               go_simp
               with_reducible rfl
             rotate_left
             · simp only [Act.put, List.setIfInBounds_toArray, List.set_cons_zero, List.set_cons_succ, i64_w, i32_w]
               rfl
             refine pure_ (i := 5) (N := some 72) (v := ?_) (a' := ?_) #[true, true, true, true, true, true, false, false, false, false] rfl rfl (by kernel_rfl) (fun _ _ _ h => h) (Or.inl ⟨by rfl, ?_⟩) ?_ ?_
             rotate_left
             · intro w'
               go_simp
               with_reducible rfl
             rotate_left
             · simp only [Act.put, List.setIfInBounds_toArray, List.set_cons_zero, List.set_cons_succ, i64_w, i32_w]
               rfl
             refine pure_ (i := 6) (N := some 73) (v := ?_) (a' := ?_) #[true, true, true, true, true, true, true, false, false, false] rfl rfl (by kernel_rfl) (fun _ _ _ h => h) (Or.inl ⟨by rfl, ?_⟩) ?_ ?_
             rotate_left
             · intro w'
               go_simp
               with_reducible rfl
             rotate_left
             · simp only [Act.put, List.setIfInBounds_toArray, List.set_cons_zero, List.set_cons_succ, i64_w, i32_w]
               rfl
             refine last_ (i := 7) (N := some 74) #[true, true, true, true, true, true, true, true, false, false] rfl rfl (by kernel_rfl) (by decide) (fun K hK => ?_)
             obtain ⟨w5, m, hm1, hmk, hr5, B5⟩ := copy_self w _ w.heap.size k bp 8192 x 22 3 5 Try.underlying22 (by kernel_rfl) hHeld (by omega) (by omega) (by omega)
             refine step_run rfl (.tmp 70) (.tmp 73) 22 22 rfl _ _ rfl rfl hr5 ?_
             refine hK.out _ _ ?_
             clear hK K
             refine norm_ (a' := ?_) ?_ ?_
             rotate_left
             · show Act.put _ (some 74) _ = _
               simp only [Act.put, List.setIfInBounds_toArray, List.set_cons_zero, List.set_cons_succ, i64_w, i32_w]
               rfl
             refine pure_ (i := 8) (N := some 75) (v := ?_) (a' := ?_) #[true, true, true, true, true, true, true, true, true, false] rfl rfl (by kernel_rfl) (fun _ _ _ h => h) (Or.inl ⟨by rfl, ?_⟩) ?_ ?_
             rotate_left
             · intro w'
               go_simp
               with_reducible rfl
             rotate_left
             · simp only [Act.put, List.setIfInBounds_toArray, List.set_cons_zero, List.set_cons_succ, i64_w, i32_w]
               rfl
             refine pure_ (i := 9) (N := some 10) (v := ?_) (a' := ?_) #[true, true, true, true, true, true, true, true, true, true] rfl rfl (by kernel_rfl) (fun _ _ _ h => h) (Or.inl ⟨by rfl, ?_⟩) ?_ ?_
             rotate_left
             · intro w'
               go_simp
               with_reducible rfl
             rotate_left
             · simp only [Act.put, List.setIfInBounds_toArray, List.set_cons_zero, List.set_cons_succ, i64_w, i32_w]
               rfl
             refine done_ (by kernel_rfl) ?_
             go_wp2
             go_roundg (k - (bp + m))
             case measure => omega
             case rel => exact ⟨bp + m, by omega, by omega, by omega, by rw [show wrap64 ((bp : Int) + (m : Int)) = ((bp + m : Nat) : Int) by unfold wrap64; omega], B5⟩)
        · go_wp2_with fail
          refine start_ (n := 10) (S := fun w' => Lib.Buf w w' w.heap.size k (List.replicate bp x)) (ds := [7]) #[false, false, false, false, false, false, false, false, false, false] (by kernel_rfl) rfl rfl (buf_drew hB 1) (fun hHeld => ?_)
          refine pure_ (i := 0) (N := some 67) (v := ?_) (a' := ?_) #[true, false, false, false, false, false, false, false, false, false] rfl rfl (by kernel_rfl) (fun _ _ _ h => h) (Or.inl ⟨by rfl, ?_⟩) ?_ ?_
          rotate_left
          · intro w'
            go_simp
            with_reducible rfl
          rotate_left
          · simp only [Act.put, List.setIfInBounds_toArray, List.set_cons_zero, List.set_cons_succ, i64_w, i32_w]
            rfl
          refine pure_ (i := 1) (N := some 68) (v := ?_) (a' := ?_) #[true, true, false, false, false, false, false, false, false, false] rfl rfl (by kernel_rfl) (fun _ _ _ h => h) (Or.inl ⟨by rfl, ?_⟩) ?_ ?_
          rotate_left
          · intro w'
            go_simp
            with_reducible rfl
          rotate_left
          · simp only [Act.put, List.setIfInBounds_toArray, List.set_cons_zero, List.set_cons_succ, i64_w, i32_w]
            rfl
          refine pure_ (i := 2) (N := some 69) (v := ?_) (a' := ?_) #[true, true, true, false, false, false, false, false, false, false] rfl rfl (by kernel_rfl) (fun _ _ _ h => h) (Or.inl ⟨by rfl, ?_⟩) ?_ ?_
          rotate_left
          · intro w'
            go_simp
            with_reducible rfl
          rotate_left
          · simp only [Act.put, List.setIfInBounds_toArray, List.set_cons_zero, List.set_cons_succ, i64_w, i32_w]
            rfl
          refine pure_ (i := 3) (N := some 70) (v := ?_) (a' := ?_) #[true, true, true, true, false, false, false, false, false, false] rfl rfl (by kernel_rfl) (fun _ _ _ h => h) (Or.inl ⟨by rfl, ?_⟩) ?_ ?_
          rotate_left
          · intro w'
            go_simp
            with_reducible rfl
          rotate_left
          · simp only [Act.put, List.setIfInBounds_toArray, List.set_cons_zero, List.set_cons_succ, i64_w, i32_w]
            rfl
          refine pure_ (i := 4) (N := some 71) (v := ?_) (a' := ?_) #[true, true, true, true, true, false, false, false, false, false] rfl rfl (by kernel_rfl) (fun _ _ _ h => h) (Or.inl ⟨by rfl, ?_⟩) ?_ ?_
          rotate_left
          · intro w'
            go_simp
            with_reducible rfl
          rotate_left
          · simp only [Act.put, List.setIfInBounds_toArray, List.set_cons_zero, List.set_cons_succ, i64_w, i32_w]
            rfl
          refine pure_ (i := 5) (N := some 72) (v := ?_) (a' := ?_) #[true, true, true, true, true, true, false, false, false, false] rfl rfl (by kernel_rfl) (fun _ _ _ h => h) (Or.inl ⟨by rfl, ?_⟩) ?_ ?_
          rotate_left
          · intro w'
            go_simp
            with_reducible rfl
          rotate_left
          · simp only [Act.put, List.setIfInBounds_toArray, List.set_cons_zero, List.set_cons_succ, i64_w, i32_w]
            rfl
          refine pure_ (i := 6) (N := some 73) (v := ?_) (a' := ?_) #[true, true, true, true, true, true, true, false, false, false] rfl rfl (by kernel_rfl) (fun _ _ _ h => h) (Or.inl ⟨by rfl, ?_⟩) ?_ ?_
          rotate_left
          · intro w'
            go_simp
            with_reducible rfl
          rotate_left
          · simp only [Act.put, List.setIfInBounds_toArray, List.set_cons_zero, List.set_cons_succ, i64_w, i32_w]
            rfl
          refine last_ (i := 7) (N := some 74) #[true, true, true, true, true, true, true, true, false, false] rfl rfl (by kernel_rfl) (by decide) (fun K hK => ?_)
          obtain ⟨w5, m, hm1, hmk, hr5, B5⟩ := copy_self w _ w.heap.size k bp bp x 22 3 5 Try.underlying22 (by kernel_rfl) hHeld (by omega) (by omega) (by omega)
          refine step_run rfl (.tmp 70) (.tmp 73) 22 22 rfl _ _ rfl rfl hr5 ?_
          refine hK.out _ _ ?_
          clear hK K
          refine norm_ (a' := ?_) ?_ ?_
          rotate_left
          · show Act.put _ (some 74) _ = _
            simp only [Act.put, List.setIfInBounds_toArray, List.set_cons_zero, List.set_cons_succ, i64_w, i32_w]
            rfl
          refine pure_ (i := 8) (N := some 75) (v := ?_) (a' := ?_) #[true, true, true, true, true, true, true, true, true, false] rfl rfl (by kernel_rfl) (fun _ _ _ h => h) (Or.inl ⟨by rfl, ?_⟩) ?_ ?_
          rotate_left
          · intro w'
            go_simp
            with_reducible rfl
          rotate_left
          · simp only [Act.put, List.setIfInBounds_toArray, List.set_cons_zero, List.set_cons_succ, i64_w, i32_w]
            rfl
          refine pure_ (i := 9) (N := some 10) (v := ?_) (a' := ?_) #[true, true, true, true, true, true, true, true, true, true] rfl rfl (by kernel_rfl) (fun _ _ _ h => h) (Or.inl ⟨by rfl, ?_⟩) ?_ ?_
          rotate_left
          · intro w'
            go_simp
            with_reducible rfl
          rotate_left
          · simp only [Act.put, List.setIfInBounds_toArray, List.set_cons_zero, List.set_cons_succ, i64_w, i32_w]
            rfl
          refine done_ (by kernel_rfl) ?_
          go_wp2
          go_roundg (k - (bp + m))
          case measure => omega
          case rel => exact ⟨bp + m, by omega, by omega, by omega, by rw [show wrap64 ((bp : Int) + (m : Int)) = ((bp + m : Nat) : Int) by unfold wrap64; omega], B5⟩
      · obtain rfl : bp = k := by omega
        have hd := decide_eq_false (show ¬ (bp : Int) < (bp : Int) by omega)
        go_wp2
        go_ret
        refine ⟨_, _, rfl, Nat.le_refl _, ?_, HB.out.below⟩
        refine ⟨by rw [List.length_replicate], by omega, fun _ => ⟨_, rfl, fun j hj => ?_⟩⟩
        rw [add_p2, Nat.zero_add, HB.out.holds j x (by rw [List.getElem?_replicate, if_pos hj])]
        simp [List.getD, List.getElem?_replicate, hj]
end Go.Proofs.Ytijdjpcmndjbcaa.RU

namespace Go.Proofs.Ytijdjpcmndjbcaa.BQ
open Go.RowKit Go.Proofs.YtijdjpcmndjbcaaW.PrintWords Go.Proofs.YtijdjpcmndjbcaaW.PrintLast Go.Proofs.YtijdjpcmndjbcaaW.PrintMore Go.Proofs.Ytijdjpcmndjbcaa.CD Go.Proofs.Ytijdjpcmndjbcaa.BR
set_option linter.unusedVariables false
set_option linter.unusedSimpArgs false
variable {p : Nat → Prop}

/-! ### worlds -/
/-- The reader at block g: xs is left; is it broken? -/
structure Rdr (p : Nat → Prop) (w : World) (g : Nat) (xs : List Int) (br : Bool) : Prop where
  cell : ∃ (A : Option Addr) (c : Nat), w.heap[g]? = some (.cells #[.slice A xs.length c, .bool true, .bool br] 50 (0, 0)) ∧ xs.length ≤ c ∧ ReadsInt w .u8 A xs.length xs ∧ (∀ ad, A = some ad → 0 < xs.length → ad.block ≠ g)
  small : xs.length ≤ 140737488355328
  bytes : Bytes xs
  dat : ∀ (A : Option Addr) (c : Nat), w.heap[g]? = some (.cells #[.slice A xs.length c, .bool true, .bool br] 50 (0, 0)) → ∀ ad, A = some ad → 0 < xs.length → p ad.block
theorem Rdr.imp {q : Nat → Prop} {w : World} {g : Nat} {xs : List Int} {br : Bool} (h : Rdr p w g xs br) (hq : ∀ k, p k → q k) : Rdr q w g xs br := ⟨h.cell, h.small, h.bytes, fun A c hb ad e h0 => hq _ (h.dat A c hb ad e h0)⟩
theorem Rdr.lt {w : World} {g : Nat} {xs : List Int} {br : Bool} (h : Rdr p w g xs br) : g < w.heap.size := by
  obtain ⟨A, c, hb, _⟩ := h.cell
  exact blk_lt hb
/-- Another block's turn leaves a reader. -/
theorem Rdr.kept {w w' : World} {g : Nat} {xs : List Int} {br : Bool} (h : Rdr p w g xs br) {row : Option Nat} (hg : w.grownBy w' row) (hne : some g ≠ row) (hdata : ∀ ad : Addr, some ad.block = row → ∀ A c, w.heap[g]? = some (.cells #[.slice A xs.length c, .bool true, .bool br] 50 (0, 0)) → 0 < xs.length → A ≠ some ad) : Rdr p w' g xs br := by
  obtain ⟨A, c, hb, hc, hr, hn⟩ := h.cell
  refine ⟨⟨A, c, (hg.block g (blk_lt hb) hne).trans hb, hc, reads_kept hr fun ad e h0 hl => hg.block _ hl (fun e2 => hdata ad e2 A c hb h0 e), hn⟩, h.small, h.bytes, fun A' c' hb' => h.dat A' c' ((hg.block g (blk_lt hb) hne).symm.trans hb')⟩
/-- What is written elsewhere leaves a reader. -/
theorem Rdr.far {w w' : World} {g : Nat} {xs : List Int} {br : Bool} (h : Rdr p w g xs br) {row : Option Nat} (hg : w.grownBy w' row) (hne : some g ≠ row) (hp : ∀ k, row = some k → ¬ p k) : Rdr p w' g xs br := by
  refine h.kept hg hne fun ad e A c hb h0 hA => hp ad.block e.symm (h.dat A c hb ad hA h0)
theorem Rdr.below {w w' : World} {g : Nat} {xs : List Int} {br : Bool} (h : Rdr p w g xs br) (hb : Below w.heap.size w w') : Rdr p w' g xs br :=
  h.kept (gofBelow (row := none) hb) (by simp) (fun ad e => by cases e)
theorem Rdr.drewN {w : World} {g : Nat} {xs : List Int} {br : Bool} (h : Rdr p w g xs br) (n : Nat) : Rdr p (w.drewN n) g xs br := h.below (pw_below_drewN (Below.refl _ _) n)
/-- It breaks. -/
theorem Rdr.breaks {w : World} {g : Nat} {xs : List Int} {br : Bool} (h : Rdr p w g xs br) : Rdr p (w.setCell ⟨g, 2, none⟩ (.bool true)) g xs true := by
  obtain ⟨A, c, hb, hc, hr, hn⟩ := h.cell
  refine ⟨⟨A, c, by rw [blk_set hb]; rfl, hc, reads_kept hr fun ad e h0 hl => Below.heap_setCell w _ _ _ (hn ad e h0), hn⟩, h.small, h.bytes, fun A' c' hb' => by
    have e1 : (w.setCell ⟨g, 2, none⟩ (.bool true)).heap[g]? = some (.cells #[.slice A xs.length c, .bool true, .bool true] 50 (0, 0)) := by rw [blk_set hb]; rfl
    rw [e1] at hb'
    simp only [Option.some.injEq, Obj.cells.injEq, Array.mk.injEq, List.cons.injEq, Value.slice.injEq, and_true, true_and] at hb'
    obtain ⟨rfl, rfl⟩ := hb'
    exact h.dat A c hb⟩
/-- It goes on behind m bytes. -/
theorem Rdr.moves {w : World} {g : Nat} {xs : List Int} {br : Bool} (h : Rdr p w g xs br) {A : Option Addr} {c : Nat} (hb : w.heap[g]? = some (.cells #[.slice A xs.length c, .bool true, .bool br] 50 (0, 0))) {m : Nat} (hm : m ≤ xs.length) {A' : Option Addr}
    (hr : ∀ w, ReadsInt w .u8 A xs.length xs → ReadsInt w .u8 A' (xs.drop m).length (xs.drop m)) (ha : ∀ ad', A' = some ad' → ∃ ad, A = some ad ∧ ad.block = ad'.block) :
    Rdr p (w.setCell ⟨g, 0, none⟩ (.slice A' (xs.length - m) (c - m))) g (xs.drop m) br := by
  obtain ⟨A2, c2, hb2, hc, hrd, hn⟩ := h.cell
  rw [hb2] at hb
  simp only [Option.some.injEq, Obj.cells.injEq, Array.mk.injEq, List.cons.injEq, Value.slice.injEq, and_true, true_and] at hb
  obtain ⟨rfl, rfl⟩ := hb
  have hl : (xs.drop m).length = xs.length - m := List.length_drop
  have hne : ∀ ad', A' = some ad' → 0 < (xs.drop m).length → ad'.block ≠ g := fun ad' e h0 => by
    obtain ⟨ad, e1, e2⟩ := ha ad' e
    rw [← e2]
    exact hn ad e1 (by omega)
  refine ⟨⟨A', c2 - m, by rw [blk_set hb2, hl]; rfl, by omega, reads_kept (hr w hrd) fun ad e h0 hlt => Below.heap_setCell w _ _ _ (hne ad e h0), hne⟩, by have := h.small; omega, h.bytes.drop m, fun A9 c9 hb9 ad9 e9 h9 => by
    have e1 : (w.setCell ⟨g, 0, none⟩ (.slice A' (xs.length - m) (c2 - m))).heap[g]? = some (.cells #[.slice A' (xs.drop m).length (c2 - m), .bool true, .bool br] 50 (0, 0)) := by rw [blk_set hb2, hl]; rfl
    rw [e1] at hb9
    simp only [Option.some.injEq, Obj.cells.injEq, Array.mk.injEq, List.cons.injEq, Value.slice.injEq, and_true, true_and] at hb9
    obtain ⟨rfl, rfl⟩ := hb9
    obtain ⟨ad, e1, e2⟩ := ha ad9 e9
    rw [← e2]
    exact h.dat A2 c2 hb2 ad e1 (by omega)⟩

/-! ### what a call does -/
theorem fine_calls (g : Nat) (xs : List Int) (br : Bool) (w : World) (h : Rdr p w g xs br) :
    Calls Try.prog 23 #[.pointer (some ⟨g, 0, none⟩)] w fun e w' => e = .returned (.bool (!br)) ∧ Drawn0 w w' := by
  obtain ⟨A, c, hb, hc, hr, hne⟩ := h.cell
  have h1 := blk_cell hb 1
  have h2 := blk_cell hb 2
  simp only [List.getElem?_toArray, List.getElem?_cons_succ, List.getElem?_cons_zero] at h1 h2
  clear hb hc hr hne h
  go_enter Try.func23, Try.ntmps23
  go_wp2
  go_ret
  exact ⟨rfl, by repeat (first | exact Drawn0.refl _ | apply Drawn0.step)⟩
theorem num_broken (g : Nat) (xs : List Int) (w : World) (h : Rdr p w g xs true) :
    Calls Try.prog 15 #[.pointer (some ⟨g, 0, none⟩)] w fun e w' => e = .returned (.int .u64 0) ∧ Rdr p w' g xs true ∧ w.grownBy w' (some g) := by
  have H := Lib.hid h
  clear h
  go_enter Try.func15, Try.ntmps15
  go_wp2_with (go_at_call 23; refine (fine_calls g xs true _ H.out).mono ?_; rintro e w' ⟨rfl, ⟨nd, rfl⟩⟩)
  go_ret
  exact ⟨rfl, H.out.drewN _, gdrewN (World.grownBy.refl _ _) _⟩
theorem num_no (g : Nat) (xs : List Int) (w : World) (h : Rdr p w g xs false) (hk : (dec xs).2 = 0) :
    Calls Try.prog 15 #[.pointer (some ⟨g, 0, none⟩)] w fun e w' => e = .returned (.int .u64 0) ∧ Rdr p w' g xs true ∧ w.grownBy w' (some g) := by
  have H := Lib.hid h
  obtain ⟨A, c, hb, hc, hr, hne⟩ := h.cell
  have h0 := blk_cell hb 0
  have h2 := blk_cell hb 2
  have f2 := blk_frozen hb 2
  simp only [List.getElem?_toArray, List.getElem?_cons_succ, List.getElem?_cons_zero] at h0 h2
  have HN0 := fun w' (hd : ReadsInt w' .u8 A xs.length xs) => number_calls A c xs w' hd hc h.bytes h.small
  rw [hk] at HN0
  have HN := Lib.hid HN0
  have Hr := Lib.hid hr
  clear hb hc hr hne h hk HN0
  go_enter Try.func15, Try.ntmps15
  go_wp2_with (first | (go_at_call 23; refine (fine_calls g xs false _ H.out).mono ?_; rintro e w' ⟨rfl, ⟨nd, rfl⟩⟩) | (go_at_call 24; refine (HN.out _ (Hr.out.below (pw_below_drewN (Below.refl _ _) _))).mono ?_; rintro e w' ⟨rfl, ⟨nd2, rfl⟩⟩))
  go_ret
  exact ⟨rfl, (H.out.drewN _).breaks, gset (gdrewN (World.grownBy.refl _ _) _) _ _⟩
set_option maxRecDepth 100000 in
theorem num_ok (g : Nat) (xs : List Int) (w : World) (h : Rdr p w g xs false) (m k : Nat) (hd : dec xs = (m, k)) (hk : k ≠ 0) :
    Calls Try.prog 15 #[.pointer (some ⟨g, 0, none⟩)] w fun e w' => e = .returned (.int .u64 (m : Int)) ∧ Rdr p w' g (xs.drop k) false ∧ w.grownBy w' (some g) := by
  have H := Lib.hid h
  obtain ⟨A, c, hb, hc, hr, hne⟩ := h.cell
  have hkl := (dec_back xs h.bytes m k hd hk).2.2.2.1
  have h0 := blk_cell hb 0
  have f0 := blk_frozen hb 0
  simp only [List.getElem?_toArray, List.getElem?_cons_succ, List.getElem?_cons_zero] at h0
  obtain ⟨A', hcut, hrd, hA'⟩ := cutFrom A xs c k hkl hc
  have HB := Lib.hid hb
  have HM := Lib.hid hrd
  have HA := Lib.hid hA'
  have HN0 := fun w' (hd : ReadsInt w' .u8 A xs.length xs) => number_calls A c xs w' hd hc h.bytes h.small
  rw [hd] at HN0
  have HN := Lib.hid HN0
  have Hr := Lib.hid hr
  have hk0 : (((k : Nat) : Int) == 0) = false := by rw [beq_eq_false_iff_ne]; omega
  have hk1 : ((k : Nat) : Int) ≤ (xs.length : Int) := by omega
  have Hkl := Lib.hid hkl
  clear hb hc hr hne h hd hk HN0 hrd hA' hkl
  go_enter Try.func15, Try.ntmps15
  go_wp2_with (first | (go_at_call 23; refine (fine_calls g xs false _ H.out).mono ?_; rintro e w' ⟨rfl, ⟨nd, rfl⟩⟩) | (go_at_call 24; refine (HN.out _ (Hr.out.below (pw_below_drewN (Below.refl _ _) _))).mono ?_; rintro e w' ⟨rfl, ⟨nd2, rfl⟩⟩))
  go_ret
  exact ⟨rfl, (H.out.drewN _).moves (blk_drewN HB.out _) Hkl.out HM.out HA.out, gset (gdrewN (World.grownBy.refl _ _) _) _ _⟩
theorem num_calls (g : Nat) (xs : List Int) (br : Bool) (w : World) (h : Rdr p w g xs br) :
    Calls Try.prog 15 #[.pointer (some ⟨g, 0, none⟩)] w fun e w' => e = .returned (.int .u64 ((rNum (xs, br)).1 : Int)) ∧ Rdr p w' g (rNum (xs, br)).2.1 (rNum (xs, br)).2.2 ∧ w.grownBy w' (some g) := by
  unfold rNum
  cases br with
  | true => exact num_broken g xs w h
  | false =>
    simp only [Bool.false_eq_true, if_false]
    by_cases hk : (dec xs).2 = 0
    · rw [if_pos hk]; exact num_no g xs w h hk
    · rw [if_neg hk]; exact num_ok g xs w h _ _ rfl hk
theorem Rdr.new {w1 : World} {A1 : Option Addr} {c1 : Nat} {xs : List Int} (hr : ReadsInt w1 .u8 A1 xs.length xs) (hc : xs.length ≤ c1) (hb : Bytes xs) (hs : xs.length ≤ 140737488355328) (hp : ∀ ad, A1 = some ad → 0 < xs.length → p ad.block) :
    Rdr p (w1.alloc (.cells #[.slice A1 xs.length c1, .bool true, .bool false] 50)) w1.heap.size xs false := by
  refine ⟨⟨A1, c1, blk_new _ _, hc, hr.below (below_alloc (Below.refl _ _) _), fun ad e h0 e2 => ?_⟩, hs, hb, fun A c h => by
    rw [blk_new] at h
    simp only [Option.some.injEq, Obj.cells.injEq, Array.mk.injEq, List.cons.injEq, Value.slice.injEq, and_true, true_and] at h
    obtain ⟨rfl, rfl⟩ := h
    exact hp⟩
  obtain ⟨ad', e', hcell⟩ := hr.2.2 h0
  rw [e] at e'
  obtain rfl := Option.some.inj e'
  have := World.block_lt_of_cell? w1 _ (hcell 0 h0)
  have hbk : (ad.add 0).block = ad.block := by unfold Addr.add; split <;> rfl
  omega
set_option maxHeartbeats 400000 in
set_option maxRecDepth 100000 in
theorem new_calls (A : Option Addr) (c : Nat) (xs : List Int) (w : World) (hr : ReadsInt w .u8 A xs.length xs) (hc : xs.length ≤ c) (hb : Bytes xs) (hs : xs.length ≤ 140737488355328) :
    Calls Try.prog 14 #[.slice A xs.length c] w fun e w' => ∃ g, e = .returned (.pointer (some ⟨g, 0, none⟩)) ∧ w.heap.size ≤ g ∧ Rdr (fun k => w.heap.size ≤ k ∧ k < g) w' g xs false ∧ Below w.heap.size w w' := by
  have Hr := Lib.hid hr
  clear hr
  go_enter Try.func14, Try.ntmps14
  go_wp2_with (at_builtin; refine print_append_row (w0 := w) w.heap.size rfl (.tmp 3) (.tmp 4) 22 5 .u8 1 rfl Try.underlying22 infoU8 (by decide) (.slice (some ⟨w.heap.size, 0, none⟩) 0 0) [] xs A xs.length c rfl rfl ?own ?reads ?below ?size ?len ?_; (case own => exact OB.empty w _ (Nat.le_refl _)); (case reads => exact Hr.out.below (below_alloc (Below.refl _ _) _)); (case below => exact below_alloc (Below.refl _ _) _); (case size => simp); (case len => simp; omega); intro v1 w1 hown hb1 hg hat; rw [List.nil_append] at hown; obtain ⟨A1, c1, rfl, hc1, hr1⟩ := OB.slice hown; have HO := Lib.hid hown; have HB := Lib.hid hb1; have HR := Lib.hid hr1; clear hown hb1 hr1 hg hat)
  go_ret
  refine ⟨w1.heap.size, rfl, HB.out.size, Rdr.new HR.out hc1 hb hs (fun ad e h0 => ⟨own_base HO.out ad.block (by rw [e]; rfl), own_lt HO.out ad.block (by rw [e]; rfl)⟩), below_alloc HB.out _⟩
set_option maxRecDepth 100000 in
theorem take_broken (g : Nat) (xs : List Int) (n : Int) (w : World) (h : Rdr p w g xs true) :
    Calls Try.prog 16 #[.pointer (some ⟨g, 0, none⟩), .int .i64 n] w fun e w' => ∃ v, e = .returned v ∧ OB w' w.heap.size v [] ∧ Rdr p w' g xs true ∧ w.grownBy w' (some g) := by
  have H := Lib.hid h
  clear h
  go_enter Try.func16, Try.ntmps16
  go_wp2_with (go_at_call 23; refine (fine_calls g xs true _ H.out).mono ?_; rintro e w' ⟨rfl, ⟨nd, rfl⟩⟩)
  go_ret
  exact ⟨_, rfl, own_nil _ _ _ _, H.out.drewN _, gdrewN (World.grownBy.refl _ _) _⟩
set_option maxRecDepth 100000 in
theorem take_no (g : Nat) (xs : List Int) (n : Int) (w : World) (h : Rdr p w g xs false) (hn : n < 0 ∨ n > (xs.length : Int)) :
    Calls Try.prog 16 #[.pointer (some ⟨g, 0, none⟩), .int .i64 n] w fun e w' => ∃ v, e = .returned v ∧ OB w' w.heap.size v [] ∧ Rdr p w' g xs true ∧ w.grownBy w' (some g) := by
  have H := Lib.hid h
  obtain ⟨A, c, hb, hc, hr, hne⟩ := h.cell
  have h0 := blk_cell hb 0
  have h2 := blk_cell hb 2
  have f2 := blk_frozen hb 2
  simp only [List.getElem?_toArray, List.getElem?_cons_succ, List.getElem?_cons_zero] at h0 h2
  clear hb hc hr hne h
  by_cases h1 : n < 0
  · have hd : decide (n < 0) = true := decide_eq_true h1
    clear hn
    go_enter Try.func16, Try.ntmps16
    go_wp2_with (go_at_call 23; refine (fine_calls g xs false _ H.out).mono ?_; rintro e w' ⟨rfl, ⟨nd, rfl⟩⟩)
    go_ret
    exact ⟨_, rfl, own_nil _ _ _ _, (H.out.drewN _).breaks, gset (gdrewN (World.grownBy.refl _ _) _) _ _⟩
  · have hd : decide (n < 0) = false := decide_eq_false h1
    have hd2 : decide ((xs.length : Int) < n) = true := decide_eq_true (by omega)
    clear hn
    go_enter Try.func16, Try.ntmps16
    go_wp2_with (go_at_call 23; refine (fine_calls g xs false _ H.out).mono ?_; rintro e w' ⟨rfl, ⟨nd, rfl⟩⟩)
    go_ret
    exact ⟨_, rfl, own_nil _ _ _ _, (H.out.drewN _).breaks, gset (gdrewN (World.grownBy.refl _ _) _) _ _⟩
set_option maxHeartbeats 400000 in
set_option maxRecDepth 100000 in
theorem take_ok (g : Nat) (xs : List Int) (n : Int) (w : World) (h : Rdr p w g xs false) (hn0 : 0 ≤ n) (hn1 : n ≤ (xs.length : Int)) :
    Calls Try.prog 16 #[.pointer (some ⟨g, 0, none⟩), .int .i64 n] w fun e w' => ∃ v, e = .returned v ∧ OB w' w.heap.size v (xs.take n.toNat) ∧ Rdr p w' g (xs.drop n.toNat) false ∧ w.grownBy w' (some g) := by
  have H := Lib.hid h
  obtain ⟨k, rfl⟩ := Int.eq_ofNat_of_zero_le hn0
  rw [Int.toNat_natCast]
  have hkl : k ≤ xs.length := by omega
  obtain ⟨A, c, hb, hc, hr, hne⟩ := h.cell
  have hg := blk_lt hb
  have h0 := blk_cell hb 0
  have f0 := blk_frozen hb 0
  simp only [List.getElem?_toArray, List.getElem?_cons_succ, List.getElem?_cons_zero] at h0
  obtain ⟨A', hcut, hrd, hA'⟩ := cutFrom A xs c k hkl hc
  have hto := cut_to (P := Try.prog) 22 5 .i64 Try.underlying22 (info_parts infoU8).choose_spec.1 A xs.length c (k : Int) (by omega) (by omega) hc
  simp only [Int.toNat_natCast] at hto
  have hrt := hr.take_ k hkl
  obtain ⟨ys, hys⟩ : ∃ ys, ys = xs.take k := ⟨_, rfl⟩
  rw [← hys] at hrt ⊢
  have hyl : ys.length ≤ 140737488355328 := by rw [hys, List.length_take]; have := h.small; omega
  have hyk : k ≤ 140737488355328 := by have := h.small; omega
  have Hb := Lib.hid hb
  have HM := Lib.hid hrd
  have HA := Lib.hid hA'
  have Hr := Lib.hid hrt
  have Hkl := Lib.hid hkl
  have h0a : ∀ (n : Nat) (o : Obj), ((w.drewN n).alloc o).cell? ⟨g, 0, none⟩ = some (.slice A xs.length c) := fun n o => pw_cell_below (below_alloc (pw_below_drewN (Below.refl _ _) _) _) h0
  have hd : decide ((k : Int) < 0) = false := decide_eq_false (by omega)
  have hd2 : decide (xs.length < k) = false := decide_eq_false (by omega)
  clear hb hc hr hne h hrd hA' hkl hn0 hn1 hrt hys
  go_enter Try.func16, Try.ntmps16
  go_wp2_with (first | (go_at_call 23; refine (fine_calls g xs false _ H.out).mono ?_; rintro e w' ⟨rfl, ⟨nd, rfl⟩⟩) | (at_builtin; refine print_append_row (w0 := w) w.heap.size rfl (.tmp 23) (.tmp 29) 22 5 .u8 1 rfl Try.underlying22 infoU8 (by decide) (.slice (some ⟨w.heap.size, 0, none⟩) 0 0) [] ys A k c rfl rfl ?own ?reads ?below ?size ?len ?_; (case own => exact OB.empty _ _ (Nat.le_refl _)); (case reads => exact Hr.out.below (below_alloc (pw_below_drewN (Below.refl _ _) _) _)); (case below => exact below_alloc (pw_below_drewN (Below.refl _ _) _) _); (case size => simp); (case len => simp; omega); intro v1 w1 hown hb1 hg1 hat; rw [List.nil_append] at hown; obtain ⟨A1, c1, rfl, hc1, hr1⟩ := OB.slice hown; have HO := Lib.hid hown; have HB := Lib.hid hb1; have h0' := (hb1.cell (p := ⟨g, 0, none⟩) hg).trans h0; have f0' := (hb1.frozen (p := ⟨g, 0, none⟩) hg).trans f0; have Hb' := Lib.hid ((hb1.block g hg).trans Hb.out); clear hown hb1 hr1 hg1 hat))
  go_ret
  exact ⟨_, rfl, OB.set HO.out hg _ _, (H.out.below HB.out).moves Hb'.out Hkl.out HM.out HA.out, gset (gofBelow HB.out) _ _⟩
theorem take_calls (g : Nat) (xs : List Int) (br : Bool) (n : Int) (w : World) (h : Rdr p w g xs br) :
    Calls Try.prog 16 #[.pointer (some ⟨g, 0, none⟩), .int .i64 n] w fun e w' => ∃ v, e = .returned v ∧ OB w' w.heap.size v (rTake (xs, br) n).1 ∧ Rdr p w' g (rTake (xs, br) n).2.1 (rTake (xs, br) n).2.2 ∧ w.grownBy w' (some g) := by
  unfold rTake
  cases br with
  | true => exact take_broken g xs n w h
  | false =>
    simp only [Bool.false_eq_true, if_false]
    by_cases hn : n < 0 ∨ n > (xs.length : Int)
    · rw [if_pos hn]; exact take_no g xs n w h hn
    · rw [if_neg hn]; exact take_ok g xs n w h (by omega) (by omega)

/-- Left. -/
theorem left_calls (g : Nat) (xs : List Int) (br : Bool) (w : World) (h : Rdr p w g xs br) :
    Calls Try.prog 19 #[.pointer (some ⟨g, 0, none⟩)] w fun e w' => e = .returned (.int .i64 (xs.length : Int)) ∧ Drawn0 w w' := by
  obtain ⟨A, c, hb, hc, hr, hne⟩ := h.cell
  have h0 := blk_cell hb 0
  simp only [List.getElem?_toArray, List.getElem?_cons_succ, List.getElem?_cons_zero] at h0
  clear hb hc hr hne h
  go_enter Try.func19, Try.ntmps19
  go_wp2
  go_ret
  exact ⟨rfl, by repeat (first | exact Drawn0.refl _ | apply Drawn0.step)⟩
/-- Err. -/
theorem err_calls (g : Nat) (xs : List Int) (br : Bool) (w : World) (h : Rdr p w g xs br) :
    Calls Try.prog 17 #[.pointer (some ⟨g, 0, none⟩)] w fun e w' => e = .returned (.int .i64 (if br then 4 else 0)) ∧ Drawn0 w w' := by
  obtain ⟨A, c, hb, hc, hr, hne⟩ := h.cell
  have h1 := blk_cell hb 1
  have h2 := blk_cell hb 2
  simp only [List.getElem?_toArray, List.getElem?_cons_succ, List.getElem?_cons_zero] at h1 h2
  clear hb hc hr hne h
  cases br
  all_goals
    go_enter Try.func17, Try.ntmps17
    go_wp2
    go_ret
    exact ⟨rfl, by repeat (first | exact Drawn0.refl _ | apply Drawn0.step)⟩
end Go.Proofs.Ytijdjpcmndjbcaa.BQ
