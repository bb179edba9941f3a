/- Plain facts for the chapter hash: numbers modulo 2^64, the high half of a product, halving k times. No program here. -/
import Derived.RowKit
import Derived.Laws.BitsLemmas
namespace Go.Proofs.Ytfogcdmibakhbaa.HP
open Go.RowKit
set_option linter.unusedSimpArgs false
set_option linter.unusedVariables false

theorem wu64 (n : Int) : IntKind.u64.wrap n = n % 18446744073709551616 := by simp [IntKind.wrap, IntKind.bits, IntKind.signed]
theorem wu64_id (n : Int) (h0 : 0 ≤ n) (h1 : n < 18446744073709551616) : IntKind.u64.wrap n = n := by rw [wu64]; omega
theorem wu64_range (n : Int) : 0 ≤ IntKind.u64.wrap n ∧ IntKind.u64.wrap n < 18446744073709551616 := by rw [wu64]; omega
theorem u64_wf {n : Int} (h : (Lit.int .u64 n).wf = true) : 0 ≤ n ∧ n < 18446744073709551616 := by
  simp only [Lit.wf, IntKind.min, IntKind.max, IntKind.signed, IntKind.bits, Bool.and_eq_true, decide_eq_true_eq, if_true] at h
  simp at h
  omega
theorem i64_wf {n : Int} (h : (Lit.int .i64 n).wf = true) : -9223372036854775808 ≤ n ∧ n < 9223372036854775808 := by
  simp only [Lit.wf, IntKind.min, IntKind.max, IntKind.signed, IntKind.bits, Bool.and_eq_true, decide_eq_true_eq, if_true] at h
  omega
theorem and32 (x : Int) (h0 : 0 ≤ x) (h1 : x < 18446744073709551616) : bits .and .u64 x 4294967295 = x % 4294967296 :=
  bits_mask .u64 64 (by decide) (fun n a b => wu64_id n a (by simpa using b)) 32 (by decide) x h0 (by simpa using h1)

/-- The parts of a product of two numbers of two halves each. -/
theorem prod_parts (h n : Int) (h0 : 0 ≤ h) (h1 : h < 18446744073709551616) (n0 : 0 ≤ n) (n1 : n < 18446744073709551616) :
    ∃ p q r s : Int, h / 4294967296 * (n / 4294967296) = p ∧ h / 4294967296 * (n % 4294967296) = q ∧ h % 4294967296 * (n / 4294967296) = r ∧ h % 4294967296 * (n % 4294967296) = s ∧
      0 ≤ p ∧ 0 ≤ q ∧ 0 ≤ r ∧ 0 ≤ s ∧ p ≤ 18446744065119617025 ∧ q ≤ 18446744065119617025 ∧ r ≤ 18446744065119617025 ∧ s ≤ 18446744065119617025 ∧
      h * n = p * 18446744073709551616 + (q + r) * 4294967296 + s := by
  have bd : ∀ a b : Int, 0 ≤ a → a ≤ 4294967295 → 0 ≤ b → b ≤ 4294967295 → 0 ≤ a * b ∧ a * b ≤ 18446744065119617025 := by
    intro a b a0 a1 b0 b1
    refine ⟨Int.mul_nonneg a0 b0, ?_⟩
    calc a * b ≤ 4294967295 * 4294967295 := Int.mul_le_mul a1 b1 b0 (by decide)
      _ = 18446744065119617025 := by decide
  have e : h = h / 4294967296 * 4294967296 + h % 4294967296 := by omega
  have f : n = n / 4294967296 * 4294967296 + n % 4294967296 := by omega
  have ha := bd (h / 4294967296) (n / 4294967296) (by omega) (by omega) (by omega) (by omega)
  have hb := bd (h / 4294967296) (n % 4294967296) (by omega) (by omega) (by omega) (by omega)
  have hc := bd (h % 4294967296) (n / 4294967296) (by omega) (by omega) (by omega) (by omega)
  have hd := bd (h % 4294967296) (n % 4294967296) (by omega) (by omega) (by omega) (by omega)
  refine ⟨_, _, _, _, rfl, rfl, rfl, rfl, ha.1, hb.1, hc.1, hd.1, ha.2, hb.2, hc.2, hd.2, ?_⟩
  generalize h / 4294967296 = a at *
  generalize h % 4294967296 = b at *
  generalize n / 4294967296 = c at *
  generalize n % 4294967296 = d at *
  subst e f
  simp only [Int.add_mul, Int.mul_add]
  grind

/-- bits.Mul64's first answer, as the print has it. -/
def hi (a0 a1 : Int) : Int := IntKind.u64.wrap ((IntKind.u64.wrap ((IntKind.u64.wrap ((a0 / 4294967296) * (a1 / 4294967296))) + ((IntKind.u64.wrap ((IntKind.u64.wrap ((a0 / 4294967296) * (Go.bits .and .u64 a1 4294967295))) + ((IntKind.u64.wrap ((Go.bits .and .u64 a0 4294967295) * (Go.bits .and .u64 a1 4294967295))) / 4294967296))) / 4294967296))) + ((IntKind.u64.wrap ((Go.bits .and .u64 (IntKind.u64.wrap ((IntKind.u64.wrap ((a0 / 4294967296) * (Go.bits .and .u64 a1 4294967295))) + ((IntKind.u64.wrap ((Go.bits .and .u64 a0 4294967295) * (Go.bits .and .u64 a1 4294967295))) / 4294967296))) 4294967295) + (IntKind.u64.wrap ((Go.bits .and .u64 a0 4294967295) * (a1 / 4294967296))))) / 4294967296))
theorem hi_eq (h n : Int) (h0 : 0 ≤ h) (h1 : h < 18446744073709551616) (n0 : 0 ≤ n) (n1 : n < 18446744073709551616) : hi h n = h * n / 18446744073709551616 := by
  obtain ⟨p, q, r, s, ep, eq, er, es, p0, q0, r0, s0, p1, q1, r1, s1, e⟩ := prod_parts h n h0 h1 n0 n1
  have w := wu64_range (IntKind.u64.wrap q + IntKind.u64.wrap s / 4294967296)
  unfold hi
  rw [and32 h h0 h1, and32 n n0 n1, ep, eq, er, es, and32 _ w.1 w.2, e]
  simp only [wu64]
  clear e ep eq er es
  omega
/-- The reference's answer, as the print has it. -/
def lo (a0 a1 : Int) : Int := IntKind.u64.wrap ((IntKind.u64.wrap ((IntKind.u64.wrap ((IntKind.u64.wrap (Int.tdiv a0 4294967296)) * (IntKind.u64.wrap (Int.tdiv a1 4294967296)))) + (IntKind.u64.wrap (Int.tdiv (IntKind.u64.wrap ((IntKind.u64.wrap ((IntKind.u64.wrap (Int.tdiv a0 4294967296)) * (Int.tmod a1 4294967296))) + (IntKind.u64.wrap (Int.tdiv (IntKind.u64.wrap ((Int.tmod a0 4294967296) * (Int.tmod a1 4294967296))) 4294967296)))) 4294967296)))) + (IntKind.u64.wrap (Int.tdiv (IntKind.u64.wrap ((IntKind.u64.wrap ((Int.tmod a0 4294967296) * (IntKind.u64.wrap (Int.tdiv a1 4294967296)))) + (Int.tmod (IntKind.u64.wrap ((IntKind.u64.wrap ((IntKind.u64.wrap (Int.tdiv a0 4294967296)) * (Int.tmod a1 4294967296))) + (IntKind.u64.wrap (Int.tdiv (IntKind.u64.wrap ((Int.tmod a0 4294967296) * (Int.tmod a1 4294967296))) 4294967296)))) 4294967296))) 4294967296)))
theorem lo_eq (h n : Int) (h0 : 0 ≤ h) (h1 : h < 18446744073709551616) (n0 : 0 ≤ n) (n1 : n < 18446744073709551616) : lo h n = h * n / 18446744073709551616 := by
  obtain ⟨p, q, r, s, ep, eq, er, es, p0, q0, r0, s0, p1, q1, r1, s1, e⟩ := prod_parts h n h0 h1 n0 n1
  unfold lo
  rw [Int.tdiv_eq_ediv_of_nonneg h0, Int.tdiv_eq_ediv_of_nonneg n0, Int.tmod_eq_emod_of_nonneg h0, Int.tmod_eq_emod_of_nonneg n0,
    wu64_id (h / 4294967296) (by omega) (by omega), wu64_id (n / 4294967296) (by omega) (by omega), ep, eq, er, es, e]
  rw [Int.tdiv_eq_ediv_of_nonneg (wu64_range _).1, Int.tdiv_eq_ediv_of_nonneg (wu64_range _).1, Int.tdiv_eq_ediv_of_nonneg (wu64_range _).1, Int.tmod_eq_emod_of_nonneg (wu64_range _).1]
  simp only [wu64]
  clear e ep eq er es
  omega
theorem below_range (h n : Int) (h0 : 0 ≤ h) (h1 : h < 18446744073709551616) (n0 : 1 ≤ n) : 0 ≤ h * n / 18446744073709551616 ∧ h * n / 18446744073709551616 < n := by
  have : 0 ≤ h * n := Int.mul_nonneg h0 (by omega)
  have : h * n ≤ 18446744073709551615 * n := Int.mul_le_mul_of_nonneg_right (by omega) (by omega)
  omega
theorem below_mono (h g n : Int) (n0 : 1 ≤ n) (hg : h ≤ g) : h * n / 18446744073709551616 ≤ g * n / 18446744073709551616 := by
  have : h * n ≤ g * n := Int.mul_le_mul_of_nonneg_right hg (by omega)
  omega
theorem below_top (n : Int) (n0 : 1 ≤ n) (n1 : n < 9223372036854775808) : 18446744073709551615 * n / 18446744073709551616 = n - 1 := by omega

/-- Mixing, as the print has it. -/
def mix (a0 : Int) : Int := Go.bits .xor .u64 (IntKind.u64.wrap ((Go.bits .xor .u64 (IntKind.u64.wrap ((Go.bits .xor .u64 (IntKind.u64.wrap (a0 + 11400714819323198485)) ((IntKind.u64.wrap (a0 + 11400714819323198485)) / 1073741824)) * 13787848793156543929)) ((IntKind.u64.wrap ((Go.bits .xor .u64 (IntKind.u64.wrap (a0 + 11400714819323198485)) ((IntKind.u64.wrap (a0 + 11400714819323198485)) / 1073741824)) * 13787848793156543929)) / 134217728)) * 10723151780598845931)) ((IntKind.u64.wrap ((Go.bits .xor .u64 (IntKind.u64.wrap ((Go.bits .xor .u64 (IntKind.u64.wrap (a0 + 11400714819323198485)) ((IntKind.u64.wrap (a0 + 11400714819323198485)) / 1073741824)) * 13787848793156543929)) ((IntKind.u64.wrap ((Go.bits .xor .u64 (IntKind.u64.wrap (a0 + 11400714819323198485)) ((IntKind.u64.wrap (a0 + 11400714819323198485)) / 1073741824)) * 13787848793156543929)) / 134217728)) * 10723151780598845931)) / 2147483648)
/-- Halved k times. -/
def half : Nat → Int → Int
  | 0, x => x
  | k + 1, x => half k (IntKind.u64.wrap (Int.tdiv x 2))
theorem half_eq : ∀ (k : Nat) (x : Int), 0 ≤ x → x < 18446744073709551616 → half k x = x / 2 ^ k
  | 0, x, _, _ => by simp [half]
  | k + 1, x, h0, h1 => by
    rw [half, Int.tdiv_eq_ediv_of_nonneg h0, wu64_id _ (by omega) (by omega), half_eq k _ (by omega) (by omega)]
    rw [Int.ediv_ediv_of_nonneg (by decide), Int.pow_succ, Int.mul_comm]
end Go.Proofs.Ytfogcdmibakhbaa.HP
