/- Plain facts on numbers as bytes: groups of seven bits, numbers of a width, whole numbers turned to numbers and back. No program here. -/
import Derived.RowKit
import Derived.Laws.BitsLemmas
namespace Go.Proofs.Ythgahepldlicbaa.CD
set_option linter.unusedVariables false
set_option linter.unusedSimpArgs false

/-- All are bytes. -/
def Bytes (l : List Int) : Prop := ∀ x ∈ l, 0 ≤ x ∧ x < 256
theorem Bytes.nil : Bytes [] := fun _ h => by cases h
theorem Bytes.cons {c : Int} {l : List Int} (h : Bytes (c :: l)) : (0 ≤ c ∧ c < 256) ∧ Bytes l := ⟨h c (by simp), fun x hx => h x (by simp [hx])⟩
theorem Bytes.mk {c : Int} {l : List Int} (hc : 0 ≤ c ∧ c < 256) (h : Bytes l) : Bytes (c :: l) := fun x hx => by
  rcases List.mem_cons.1 hx with rfl | hx
  · exact hc
  · exact h x hx
theorem Bytes.append {l m : List Int} (h : Bytes l) (k : Bytes m) : Bytes (l ++ m) := fun x hx => by
  rcases List.mem_append.1 hx with hx | hx
  · exact h x hx
  · exact k x hx
theorem Bytes.left {l m : List Int} (h : Bytes (l ++ m)) : Bytes l := fun x hx => h x (List.mem_append_left _ hx)
theorem Bytes.right {l m : List Int} (h : Bytes (l ++ m)) : Bytes m := fun x hx => h x (List.mem_append_right _ hx)
theorem Bytes.drop {l : List Int} (h : Bytes l) (n : Nat) : Bytes (l.drop n) := fun x hx => h x (List.mem_of_mem_drop hx)
theorem Bytes.take {l : List Int} (h : Bytes l) (n : Nat) : Bytes (l.take n) := fun x hx => h x (List.mem_of_mem_take hx)

/-- A number's bytes, k more groups allowed behind the first. -/
def numF : Nat → Nat → List Int
  | 0, n => [(n : Int)]
  | k + 1, n => if n < 128 then [(n : Int)] else ((n % 128 + 128 : Nat) : Int) :: numF k (n / 128)
def num (n : Nat) : List Int := numF 9 n
/-- The number with whose bytes a list begins from group i on, acc being what is there already; how many bytes. -/
def decF : Nat → Nat → List Int → Nat × Nat
  | _, _, [] => (0, 0)
  | i, acc, c :: l => if (i = 9 ∧ c > 1) ∨ (i > 0 ∧ c = 0) then (0, 0) else if c < 128 then (acc + c.toNat * 128 ^ i, i + 1) else decF (i + 1) (acc + c.toNat % 128 * 128 ^ i) l
def dec (l : List Int) : Nat × Nat := decF 0 0 l

theorem numF_pos (k n : Nat) : 1 ≤ (numF k n).length := by cases k <;> simp [numF]; split <;> simp
theorem numF_le : ∀ (k n : Nat), (numF k n).length ≤ k + 1
  | 0, n => by simp [numF]
  | k + 1, n => by
    simp only [numF]
    split
    · simp
    · simp only [List.length_cons]
      have := numF_le k (n / 128)
      omega
theorem numF_small (k n : Nat) (h : n < 128) : numF k n = [(n : Int)] := by cases k <;> simp [numF, h]
theorem numF_big (k n : Nat) (h : 128 ≤ n) : numF (k + 1) n = ((n % 128 + 128 : Nat) : Int) :: numF k (n / 128) := by simp [numF, Nat.not_lt.2 h]
theorem pow_step (i : Nat) : 128 ^ (i + 1) = 128 * 128 ^ i := by rw [Nat.pow_succ, Nat.mul_comm]
theorem split_group (n p : Nat) : n % 128 * p + n / 128 * (128 * p) = n * p := by
  have h : n = 128 * (n / 128) + n % 128 := by omega
  calc n % 128 * p + n / 128 * (128 * p) = (128 * (n / 128) + n % 128) * p := by
        rw [Nat.add_mul, Nat.mul_comm 128 (n / 128), Nat.mul_assoc]; omega
    _ = n * p := by rw [← h]

theorem decF_num : ∀ (k i acc n : Nat) (rest : List Int), i + k = 9 → n * 128 ^ i < 18446744073709551616 → (0 < i → 0 < n) →
    decF i acc (numF k n ++ rest) = (acc + n * 128 ^ i, i + (numF k n).length)
  | 0, i, acc, n, rest, hi, hn, h0 => by
    obtain rfl : i = 9 := by omega
    have h1 : n ≤ 1 := by simp only [show (128 : Nat) ^ 9 = 9223372036854775808 by decide] at hn; omega
    have h2 := h0 (by omega)
    simp only [numF, List.cons_append, List.nil_append, decF]
    rw [if_neg (by omega), if_pos (by omega)]
    simp
  | k + 1, i, acc, n, rest, hi, hn, h0 => by
    by_cases h : n < 128
    · rw [numF_small _ _ h]
      simp only [List.cons_append, List.nil_append, decF]
      rw [if_neg (by omega), if_pos (by omega)]
      simp
    · rw [numF_big k n (by omega)]
      simp only [List.cons_append, decF]
      rw [if_neg (by omega), if_neg (by omega)]
      have e : ((((n % 128 + 128 : Nat) : Int)).toNat % 128) = n % 128 := by omega
      have hs := split_group n (128 ^ i)
      rw [e, decF_num k (i + 1) _ (n / 128) rest (by omega) (by rw [pow_step]; omega) (by omega), pow_step]
      simp only [List.length_cons, Prod.mk.injEq]
      omega
theorem dec_num (n : Nat) (rest : List Int) (hn : n < 18446744073709551616) : dec (num n ++ rest) = (n, (num n).length) := by
  unfold dec num
  rw [decF_num 9 0 0 n rest rfl (by simpa using hn) (by omega)]
  simp
theorem decF_back : ∀ (l : List Int) (i acc m k : Nat), Bytes l → i ≤ 9 → decF i acc l = (m, k) → k ≠ 0 →
    ∃ n rest, l = numF (9 - i) n ++ rest ∧ k = i + (numF (9 - i) n).length ∧ m = acc + n * 128 ^ i ∧ n * 128 ^ i < 18446744073709551616 ∧ (0 < i → 0 < n)
  | [], i, acc, m, k, hb, hi, h, hk => by
    simp only [decF, Prod.mk.injEq] at h
    omega
  | c :: l, i, acc, m, k, hb, hi, h, hk => by
    obtain ⟨hc, hl⟩ := hb.cons
    simp only [decF] at h
    by_cases h1 : (i = 9 ∧ c > 1) ∨ (i > 0 ∧ c = 0)
    · rw [if_pos h1] at h
      simp only [Prod.mk.injEq] at h
      omega
    · rw [if_neg h1] at h
      by_cases h2 : c < 128
      · rw [if_pos h2] at h
        simp only [Prod.mk.injEq] at h
        refine ⟨c.toNat, l, ?_, ?_, h.1.symm, ?_, by omega⟩
        · rw [numF_small _ _ (by omega), show ((c.toNat : Nat) : Int) = c by omega]
          rfl
        · rw [numF_small _ _ (by omega)]
          simp
          omega
        · by_cases h9 : i = 9
          · subst h9
            have : c.toNat ≤ 1 := by omega
            simp only [show (128 : Nat) ^ 9 = 9223372036854775808 by decide]
            omega
          · have h3 : 128 ^ i ≤ 128 ^ 8 := Nat.pow_le_pow_right (by decide) (by omega)
            have h4 : c.toNat * 128 ^ i ≤ 127 * 128 ^ 8 := Nat.mul_le_mul (by omega) h3
            simp only [show 127 * (128 : Nat) ^ 8 = 9151314442816847872 by decide] at h4
            omega
      · rw [if_neg h2] at h
        have h9 : i ≠ 9 := fun h9 => h1 (.inl ⟨h9, by omega⟩)
        obtain ⟨n, rest, e1, e2, e3, e4, e5⟩ := decF_back l (i + 1) _ m k hl (by omega) h hk
        have hn := e5 (by omega)
        have hs := split_group (128 * n + c.toNat % 128) (128 ^ i)
        have q1 : (128 * n + c.toNat % 128) % 128 = c.toNat % 128 := by omega
        have q2 : (128 * n + c.toNat % 128) / 128 = n := by omega
        rw [q1, q2] at hs
        rw [pow_step] at e3 e4
        refine ⟨128 * n + c.toNat % 128, rest, ?_, ?_, by omega, ?_, by omega⟩
        · rw [show 9 - i = (9 - (i + 1)) + 1 by omega, numF_big _ _ (by omega), q1, q2, e1, show ((c.toNat % 128 + 128 : Nat) : Int) = c by omega]
          rfl
        · rw [show 9 - i = (9 - (i + 1)) + 1 by omega, numF_big _ _ (by omega), q2, e2, List.length_cons]
          omega
        · -- what is added fits: all the lower groups together are below the next one's weight
          have h5 : n * (128 * 128 ^ i) + 127 * 128 ^ i < 18446744073709551616 := by
            have hi8 : i ≤ 8 := by omega
            have d : 18446744073709551616 = 2 * 128 ^ (8 - i) * (128 * 128 ^ i) := by
              have : 128 ^ (8 - i) * 128 ^ i = 128 ^ 8 := by rw [← Nat.pow_add]; congr 1; omega
              calc 18446744073709551616 = 2 * (128 * 128 ^ 8) := by decide
                _ = 2 * 128 ^ (8 - i) * (128 * 128 ^ i) := by rw [← this]; simp only [Nat.mul_assoc, Nat.mul_left_comm]
            have hp : 0 < 128 ^ i := Nat.pow_pos (by decide)
            rw [d] at e4
            have : n < 2 * 128 ^ (8 - i) := Nat.lt_of_mul_lt_mul_right e4
            have : (n + 1) * (128 * 128 ^ i) ≤ 2 * 128 ^ (8 - i) * (128 * 128 ^ i) := Nat.mul_le_mul_right _ this
            rw [← d, Nat.add_mul] at this
            omega
          have h6 : c.toNat % 128 * 128 ^ i ≤ 127 * 128 ^ i := Nat.mul_le_mul_right _ (by omega)
          omega
/-- What is read as a number is its bytes. -/
theorem dec_back (l : List Int) (hb : Bytes l) (m k : Nat) (h : dec l = (m, k)) (hk : k ≠ 0) : m < 18446744073709551616 ∧ k = (num m).length ∧ l = num m ++ l.drop k ∧ k ≤ l.length ∧ 1 ≤ k ∧ k ≤ 10 := by
  obtain ⟨n, rest, e1, e2, e3, e4, _⟩ := decF_back l 0 0 m k hb (by omega) h hk
  have hn : n = m := by rw [e3]; simp
  subst hn
  have h1 : k = (num n).length := by rw [e2]; simp [num]
  have h2 : l = num n ++ rest := e1
  refine ⟨by simpa using e4, h1, ?_, ?_, ?_, ?_⟩
  · rw [h1, h2, List.drop_left]
  · rw [h1, h2, List.length_append]; omega
  · rw [h1]; exact numF_pos _ _
  · rw [h1]; exact numF_le 9 n
theorem decF_none : ∀ (l : List Int) (i acc m : Nat), decF i acc l = (m, 0) → m = 0
  | [], i, acc, m, h => by simp only [decF, Prod.mk.injEq] at h; exact h.1.symm
  | c :: l, i, acc, m, h => by
    simp only [decF] at h
    split at h
    · simp only [Prod.mk.injEq] at h; exact h.1.symm
    · split at h
      · simp only [Prod.mk.injEq] at h; omega
      · exact decF_none l _ _ m h
theorem dec_none (l : List Int) (m : Nat) (h : dec l = (m, 0)) : m = 0 := decF_none l 0 0 m h
theorem num_pos (n : Nat) : 1 ≤ (num n).length := numF_pos 9 n
theorem num_le (n : Nat) : (num n).length ≤ 10 := numF_le 9 n
theorem numF_bytes : ∀ (k i n : Nat), i + k = 9 → n * 128 ^ i < 18446744073709551616 → Bytes (numF k n)
  | 0, i, n, hi, hn => by
    obtain rfl : i = 9 := by omega
    have h1 : n ≤ 1 := by simp only [show (128 : Nat) ^ 9 = 9223372036854775808 by decide] at hn; omega
    exact Bytes.mk (by omega) Bytes.nil
  | k + 1, i, n, hi, hn => by
    by_cases h : n < 128
    · rw [numF_small _ _ h]
      exact Bytes.mk (by omega) Bytes.nil
    · rw [numF_big k n (by omega)]
      have hs := split_group n (128 ^ i)
      exact Bytes.mk (by omega) (numF_bytes k (i + 1) (n / 128) (by omega) (by rw [pow_step]; omega))
theorem num_bytes (n : Nat) (hn : n < 18446744073709551616) : Bytes (num n) := numF_bytes 9 0 n rfl (by simpa using hn)
theorem num_inj (m n : Nat) (hm : m < 18446744073709551616) (hn : n < 18446744073709551616) (h : num m = num n) : m = n := by
  have h1 := dec_num m [] hm
  have h2 := dec_num n [] hn
  rw [h, h2] at h1
  exact (Prod.mk.inj h1).1.symm
/-- Cut off anywhere a number's bytes are none. -/
theorem dec_cut (n j : Nat) (hn : n < 18446744073709551616) (hj : j < (num n).length) : dec ((num n).take j) = (0, 0) := by
  cases h : dec ((num n).take j) with
  | mk m k =>
    by_cases hk : k = 0
    · subst hk
      rw [dec_none _ _ h]
    · obtain ⟨h1, h2, h3, h4, h5, h6⟩ := dec_back _ ((num_bytes n hn).take j) m k h hk
      have h7 : num n = num m ++ (((num n).take j).drop k ++ (num n).drop j) := by
        rw [← List.append_assoc, ← h3, List.take_append_drop]
      have h8 := dec_num m (((num n).take j).drop k ++ (num n).drop j) h1
      rw [← h7] at h8
      have h9 := dec_num n [] hn
      rw [List.append_nil, h8] at h9
      have := (Prod.mk.inj h9).2
      rw [List.length_take] at h4
      omega

/-- A number of a width. -/
def fixed : Nat → Nat → List Int
  | 0, _ => []
  | w + 1, n => ((n % 256 : Nat) : Int) :: fixed w (n / 256)
def unfixed : List Int → Nat
  | [] => 0
  | c :: l => c.toNat + 256 * unfixed l
theorem fixed_length : ∀ (w n : Nat), (fixed w n).length = w
  | 0, _ => rfl
  | w + 1, n => by simp [fixed, fixed_length w]
theorem fixed_bytes : ∀ (w n : Nat), Bytes (fixed w n)
  | 0, _ => Bytes.nil
  | w + 1, n => Bytes.mk (by omega) (fixed_bytes w _)
theorem fixed_unfixed : ∀ (l : List Int), Bytes l → fixed l.length (unfixed l) = l
  | [], _ => rfl
  | c :: l, h => by
    obtain ⟨hc, hl⟩ := h.cons
    simp only [List.length_cons, fixed, unfixed]
    rw [show (c.toNat + 256 * unfixed l) / 256 = unfixed l by omega, fixed_unfixed l hl, show (((c.toNat + 256 * unfixed l) % 256 : Nat) : Int) = c by omega]
theorem unfixed_fixed : ∀ (w n : Nat), unfixed (fixed w n) = n % 256 ^ w
  | 0, n => by simp [fixed, unfixed, Nat.mod_one]
  | w + 1, n => by
    simp only [fixed, unfixed]
    rw [unfixed_fixed w (n / 256), Nat.pow_succ, Nat.mul_comm (256 ^ w) 256, Nat.mod_mul]
    omega
theorem unfixed_lt : ∀ (l : List Int), Bytes l → unfixed l < 256 ^ l.length
  | [], _ => by simp [unfixed]
  | c :: l, h => by
    obtain ⟨hc, hl⟩ := h.cons
    have := unfixed_lt l hl
    simp only [unfixed, List.length_cons, Nat.pow_succ]
    omega

/-- A whole number as a number, and back. -/
def zig (i : Int) : Nat := if 0 ≤ i then (2 * i).toNat else (-2 * i - 1).toNat
def zag (n : Nat) : Int := if n % 2 = 0 then ((n / 2 : Nat) : Int) else -((n / 2 : Nat) : Int) - 1
theorem zag_zig (i : Int) : zag (zig i) = i := by
  unfold zag zig
  split <;> split <;> omega
theorem zig_zag (n : Nat) : zig (zag n) = n := by
  unfold zag zig
  split <;> split <;> omega
theorem zig_lt (i : Int) (h : -9223372036854775808 ≤ i ∧ i < 9223372036854775808) : zig i < 18446744073709551616 := by
  unfold zig
  split <;> omega
theorem zag_range (n : Nat) (h : n < 18446744073709551616) : -9223372036854775808 ≤ zag n ∧ zag n < 9223372036854775808 := by
  unfold zag
  split <;> omega
end Go.Proofs.Ythgahepldlicbaa.CD
