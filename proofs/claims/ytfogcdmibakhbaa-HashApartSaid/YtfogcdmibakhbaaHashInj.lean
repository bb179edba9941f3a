/- Plain facts for HashApart: mixing, and the draw in each of its arguments, tell unlike numbers apart. -/
import Derived.Test.YtfogcdmibakhbaaHashLaws
namespace Go.Proofs.Ytfogcdmibakhbaa.HI
open Go.RowKit Go.Proofs.Ytfogcdmibakhbaa
set_option linter.unusedVariables false
set_option linter.unusedSimpArgs false

theorem xor_nat (a b : Nat) (ha : a < 18446744073709551616) (hb : b < 18446744073709551616) : bits .xor .u64 (a : Int) (b : Int) = ((a ^^^ b : Nat) : Int) := by
  have ha' : a % 2 ^ IntKind.u64.bits = a := Nat.mod_eq_of_lt (by simpa [IntKind.bits] using ha)
  have hb' : b % 2 ^ IntKind.u64.bits = b := Nat.mod_eq_of_lt (by simpa [IntKind.bits] using hb)
  simp only [bits, BitVec.ofInt_natCast, BitVec.toNat_xor, BitVec.toNat_ofNat, ha', hb']
  have : a ^^^ b < 2 ^ 64 := Nat.xor_lt_two_pow (by omega) (by omega)
  exact HP.wu64_id _ (by omega) (by omega)
theorem wrap_nat (n : Nat) : IntKind.u64.wrap (n : Int) = ((n % 18446744073709551616 : Nat) : Int) := by rw [HP.wu64]; omega

/-- x xor x / 2^k. -/
def xs (k a : Nat) : Nat := a ^^^ (a / 2 ^ k)
theorem xs_lt (k a : Nat) (ha : a < 18446744073709551616) : xs k a < 18446744073709551616 := by
  have : a / 2 ^ k ≤ a := Nat.div_le_self _ _
  exact Nat.xor_lt_two_pow (n := 64) (by omega) (by omega)
theorem xs_inj (k a b : Nat) (hk : 1 ≤ k) (h : xs k a = xs k b) : a = b := by
  unfold xs at h
  rw [← Nat.shiftRight_eq_div_pow, ← Nat.shiftRight_eq_div_pow] at h
  have h1 : a ^^^ b = (a ^^^ b) >>> k := by
    rw [Nat.shiftRight_xor_distrib]
    have h2 : (a ^^^ a >>> k) ^^^ (b ^^^ a >>> k) = (b ^^^ b >>> k) ^^^ (b ^^^ a >>> k) := by rw [h]
    have e1 : (a ^^^ a >>> k) ^^^ (b ^^^ a >>> k) = a ^^^ b := by
      rw [Nat.xor_comm b, Nat.xor_assoc, ← Nat.xor_assoc (a >>> k), Nat.xor_self, Nat.zero_xor]
    have e2 : (b ^^^ b >>> k) ^^^ (b ^^^ a >>> k) = a >>> k ^^^ b >>> k := by
      rw [Nat.xor_comm b (b >>> k), Nat.xor_assoc, ← Nat.xor_assoc b b, Nat.xor_self, Nat.zero_xor, Nat.xor_comm]
    rw [e1, e2] at h2
    exact h2
  have h3 : a ^^^ b = 0 := by
    rcases Nat.eq_zero_or_pos (a ^^^ b) with h0 | h0
    · exact h0
    · have : (a ^^^ b) >>> k < a ^^^ b := by
        rw [Nat.shiftRight_eq_div_pow]
        exact Nat.div_lt_self h0 (Nat.one_lt_two_pow (by omega))
      omega
  have h4 : (a ^^^ b) ^^^ b = 0 ^^^ b := by rw [h3]
  rw [Nat.xor_assoc, Nat.xor_self, Nat.xor_zero, Nat.zero_xor] at h4
  exact h4
theorem mul_inj (m i a b : Nat) (hi : m * i % 18446744073709551616 = 1) (ha : a < 18446744073709551616) (hb : b < 18446744073709551616) (h : a * m % 18446744073709551616 = b * m % 18446744073709551616) : a = b := by
  have key : ∀ c : Nat, c < 18446744073709551616 → c * m % 18446744073709551616 * i % 18446744073709551616 = c := by
    intro c hc
    rw [Nat.mod_mul_mod, Nat.mul_assoc, Nat.mul_mod, hi, Nat.mul_one, Nat.mod_mod, Nat.mod_eq_of_lt hc]
  rw [← key a ha, h, key b hb]

def s1 (a : Nat) : Nat := (a + 11400714819323198485) % 18446744073709551616
def s2 (a : Nat) : Nat := xs 30 (s1 a) * 13787848793156543929 % 18446744073709551616
def s3 (a : Nat) : Nat := xs 27 (s2 a) * 10723151780598845931 % 18446744073709551616
def mixN (a : Nat) : Nat := xs 31 (s3 a)
theorem modlt (x : Nat) : x % 18446744073709551616 < 18446744073709551616 := by omega
theorem s1_lt (a : Nat) : s1 a < 18446744073709551616 := modlt _
theorem s2_lt (a : Nat) : s2 a < 18446744073709551616 := modlt _
theorem s3_lt (a : Nat) : s3 a < 18446744073709551616 := modlt _
theorem mixN_lt (a : Nat) : mixN a < 18446744073709551616 := xs_lt 31 _ (s3_lt a)
theorem mixN_inj (a b : Nat) (ha : a < 18446744073709551616) (hb : b < 18446744073709551616) (h : mixN a = mixN b) : a = b := by
  have h1 : s3 a = s3 b := xs_inj 31 _ _ (by decide) h
  unfold s3 at h1
  have h2 : xs 27 (s2 a) = xs 27 (s2 b) := mul_inj 10723151780598845931 3573116690164977347 _ _ (by decide) (xs_lt 27 _ (s2_lt a)) (xs_lt 27 _ (s2_lt b)) h1
  have h3 : s2 a = s2 b := xs_inj 27 _ _ (by decide) h2
  unfold s2 at h3
  have h4 : xs 30 (s1 a) = xs 30 (s1 b) := mul_inj 13787848793156543929 10871156337175269513 _ _ (by decide) (xs_lt 30 _ (s1_lt a)) (xs_lt 30 _ (s1_lt b)) h3
  have h5 : s1 a = s1 b := xs_inj 30 _ _ (by decide) h4
  unfold s1 at h5
  clear h h1 h2 h3 h4
  omega
theorem xs_int (k a : Nat) (ha : a < 18446744073709551616) : bits .xor .u64 (a : Int) ((a : Int) / 2 ^ k) = ((xs k a : Nat) : Int) := by
  have h : ((a : Int) / 2 ^ k) = ((a / 2 ^ k : Nat) : Int) := by simp
  have h' : a / 2 ^ k ≤ a := Nat.div_le_self _ _
  rw [h, xor_nat a _ ha (by omega)]
  rfl
theorem step (s k m : Nat) (p mi : Int) (hs : s < 18446744073709551616) (hp : p = 2 ^ k) (hm : mi = (m : Int)) : IntKind.u64.wrap (bits .xor .u64 (s : Int) ((s : Int) / p) * mi) = ((xs k s * m % 18446744073709551616 : Nat) : Int) := by
  rw [hp, hm, xs_int k s hs, ← Int.natCast_mul, wrap_nat]
theorem step1 (a : Nat) : IntKind.u64.wrap ((a : Int) + 11400714819323198485) = ((s1 a : Nat) : Int) := by
  unfold s1
  rw [← wrap_nat]; rfl
theorem step2 (a : Nat) : IntKind.u64.wrap (bits .xor .u64 ((s1 a : Nat) : Int) (((s1 a : Nat) : Int) / 1073741824) * 13787848793156543929) = ((s2 a : Nat) : Int) := by
  unfold s2
  exact step (s1 a) 30 13787848793156543929 _ _ (s1_lt a) (by decide) rfl
theorem step3 (a : Nat) : IntKind.u64.wrap (bits .xor .u64 ((s2 a : Nat) : Int) (((s2 a : Nat) : Int) / 134217728) * 10723151780598845931) = ((s3 a : Nat) : Int) := by
  unfold s3
  exact step (s2 a) 27 10723151780598845931 _ _ (s2_lt a) (by decide) rfl
theorem mix_nat (a : Nat) : HP.mix (a : Int) = ((mixN a : Nat) : Int) := by
  unfold HP.mix mixN
  rw [step1, step2, step3, show (2147483648 : Int) = 2 ^ 31 from by decide]
  exact xs_int 31 _ (s3_lt a)
/-- A number of 64 bits. -/
def U (x : Int) : Prop := 0 ≤ x ∧ x < 18446744073709551616
theorem U.nat {x : Int} (h : U x) : ∃ n : Nat, x = (n : Int) ∧ n < 18446744073709551616 := ⟨x.toNat, by have := h.1; omega, by have := h.1; have := h.2; omega⟩
theorem U.mix (x : Int) (h : U x) : U (HP.mix x) := by
  obtain ⟨n, rfl, hn⟩ := h.nat
  rw [mix_nat]
  have := mixN_lt n
  exact ⟨by omega, by omega⟩
theorem U.wrap (x : Int) : U (IntKind.u64.wrap x) := HP.wu64_range x
theorem U.xor (x y : Int) (hx : U x) (hy : U y) : U (bits .xor .u64 x y) := by
  obtain ⟨a, rfl, ha⟩ := hx.nat
  obtain ⟨b, rfl, hb⟩ := hy.nat
  rw [xor_nat a b ha hb]
  have : a ^^^ b < 2 ^ 64 := Nat.xor_lt_two_pow (by omega) (by omega)
  exact ⟨by omega, by omega⟩
theorem mix_inj (x y : Int) (hx : U x) (hy : U y) (h : HP.mix x = HP.mix y) : x = y := by
  obtain ⟨a, rfl, ha⟩ := hx.nat
  obtain ⟨b, rfl, hb⟩ := hy.nat
  rw [mix_nat, mix_nat] at h
  rw [mixN_inj a b ha hb (by omega)]
theorem xor_inj_r (h x y : Int) (hh : U h) (hx : U x) (hy : U y) (e : bits .xor .u64 h x = bits .xor .u64 h y) : x = y := by
  obtain ⟨c, rfl, hc⟩ := hh.nat
  obtain ⟨a, rfl, ha⟩ := hx.nat
  obtain ⟨b, rfl, hb⟩ := hy.nat
  rw [xor_nat c a hc ha, xor_nat c b hc hb] at e
  have e' : c ^^^ a = c ^^^ b := by omega
  have : c ^^^ (c ^^^ a) = c ^^^ (c ^^^ b) := by rw [e']
  rw [← Nat.xor_assoc, ← Nat.xor_assoc, Nat.xor_self, Nat.zero_xor, Nat.zero_xor] at this
  rw [this]
theorem xor_inj_l (h x y : Int) (hh : U h) (hx : U x) (hy : U y) (e : bits .xor .u64 x h = bits .xor .u64 y h) : x = y := by
  obtain ⟨c, rfl, hc⟩ := hh.nat
  obtain ⟨a, rfl, ha⟩ := hx.nat
  obtain ⟨b, rfl, hb⟩ := hy.nat
  rw [xor_nat a c ha hc, xor_nat b c hb hc] at e
  have e' : a ^^^ c = b ^^^ c := by omega
  have : (a ^^^ c) ^^^ c = (b ^^^ c) ^^^ c := by rw [e']
  rw [Nat.xor_assoc, Nat.xor_assoc, Nat.xor_self, Nat.xor_zero, Nat.xor_zero] at this
  rw [this]
/-- One step of the draw. -/
def st (h x : Int) : Int := HP.mix (bits .xor .u64 h (IntKind.u64.wrap x))
theorem st_U (h x : Int) (hh : U h) : U (st h x) := U.mix _ (U.xor _ _ hh (U.wrap _))
theorem st_l (h g x : Int) (hh : U h) (hg : U g) (e : st h x = st g x) : h = g :=
  xor_inj_l _ _ _ (U.wrap x) hh hg (mix_inj _ _ (U.xor _ _ hh (U.wrap _)) (U.xor _ _ hg (U.wrap _)) e)
theorem st_r (h x y : Int) (hh : U h) (hx : -9223372036854775808 ≤ x ∧ x < 9223372036854775808) (hy : -9223372036854775808 ≤ y ∧ y < 9223372036854775808) (e : st h x = st h y) : x = y := by
  have := xor_inj_r _ _ _ hh (U.wrap x) (U.wrap y) (mix_inj _ _ (U.xor _ _ hh (U.wrap _)) (U.xor _ _ hh (U.wrap _)) e)
  rw [HP.wu64, HP.wu64] at this
  omega
theorem draw_st (a x y z t : Int) : HW.drawOf a x y z t = st (st (st (st (HP.mix a) x) y) z) t := rfl
abbrev I (x : Int) : Prop := -9223372036854775808 ≤ x ∧ x < 9223372036854775808
theorem draw0 (a b x y z t : Int) (ha : U a) (hb : U b) : HW.drawOf a x y z t = HW.drawOf b x y z t ↔ b = a := by
  refine ⟨fun e => ?_, fun e => by rw [e]⟩
  rw [draw_st, draw_st] at e
  have ma := U.mix a ha
  have mb := U.mix b hb
  exact (mix_inj _ _ ha hb (st_l _ _ _ ma mb (st_l _ _ _ (st_U _ _ ma) (st_U _ _ mb) (st_l _ _ _ (st_U _ _ (st_U _ _ ma)) (st_U _ _ (st_U _ _ mb)) (st_l _ _ _ (st_U _ _ (st_U _ _ (st_U _ _ ma))) (st_U _ _ (st_U _ _ (st_U _ _ mb))) e))))).symm
theorem draw1 (a x x' y z t : Int) (ha : U a) (hx : I x) (hx' : I x') : HW.drawOf a x y z t = HW.drawOf a x' y z t ↔ x' = x := by
  refine ⟨fun e => ?_, fun e => by rw [e]⟩
  rw [draw_st, draw_st] at e
  have ma := U.mix a ha
  exact (st_r _ _ _ ma hx hx' (st_l _ _ _ (st_U _ _ ma) (st_U _ _ ma) (st_l _ _ _ (st_U _ _ (st_U _ _ ma)) (st_U _ _ (st_U _ _ ma)) (st_l _ _ _ (st_U _ _ (st_U _ _ (st_U _ _ ma))) (st_U _ _ (st_U _ _ (st_U _ _ ma))) e)))).symm
theorem draw2 (a x y y' z t : Int) (ha : U a) (hx : I y) (hx' : I y') : HW.drawOf a x y z t = HW.drawOf a x y' z t ↔ y' = y := by
  refine ⟨fun e => ?_, fun e => by rw [e]⟩
  rw [draw_st, draw_st] at e
  have ma := U.mix a ha
  exact (st_r _ _ _ (st_U _ _ ma) hx hx' (st_l _ _ _ (st_U _ _ (st_U _ _ ma)) (st_U _ _ (st_U _ _ ma)) (st_l _ _ _ (st_U _ _ (st_U _ _ (st_U _ _ ma))) (st_U _ _ (st_U _ _ (st_U _ _ ma))) e))).symm
theorem draw3 (a x y z z' t : Int) (ha : U a) (hx : I z) (hx' : I z') : HW.drawOf a x y z t = HW.drawOf a x y z' t ↔ z' = z := by
  refine ⟨fun e => ?_, fun e => by rw [e]⟩
  rw [draw_st, draw_st] at e
  have ma := U.mix a ha
  exact (st_r _ _ _ (st_U _ _ (st_U _ _ ma)) hx hx' (st_l _ _ _ (st_U _ _ (st_U _ _ (st_U _ _ ma))) (st_U _ _ (st_U _ _ (st_U _ _ ma))) e)).symm
theorem draw4 (a x y z t t' : Int) (ha : U a) (hx : I t) (hx' : I t') : HW.drawOf a x y z t = HW.drawOf a x y z t' ↔ t' = t := by
  refine ⟨fun e => ?_, fun e => by rw [e]⟩
  rw [draw_st, draw_st] at e
  have ma := U.mix a ha
  exact (st_r _ _ _ (st_U _ _ (st_U _ _ (st_U _ _ ma))) hx hx' e).symm
theorem wrap64_I (x : Int) : I (wrap64 x) := by unfold wrap64 I; omega
end Go.Proofs.Ytfogcdmibakhbaa.HI
