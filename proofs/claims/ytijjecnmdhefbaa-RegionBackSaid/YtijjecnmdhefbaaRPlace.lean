/- Places in a region: the plain law. -/
import Derived.Test.YtijjecnmdhefbaaRWorks
import Derived.Test.YtijjecnmdhefbaaPRegionPlacesx1
namespace Go.Proofs.Ytijjecnmdhefbaa.RG
open Go.RowKit Go.Proofs.YtijjecnmdhefbaaW.PrintWords Go.Proofs.YtijjecnmdhefbaaW.PrintLast Go.Proofs.YtijjecnmdhefbaaW.PrintMore
set_option linter.unusedVariables false
set_option linter.unusedSimpArgs false
theorem and_low (x : Int) (k : Nat) (hk : k < 32) : bits .and .i64 x (((2 ^ k - 1 : Nat) : Int)) = x % ((2 ^ k : Nat) : Int) := by
  have hp : 2 ^ k < 2 ^ 32 := Nat.pow_lt_pow_right (by omega) hk
  have hp1 : 1 ≤ 2 ^ k := Nat.one_le_two_pow
  have hdvd : ((2 ^ k : Nat) : Int) ∣ ((2 ^ 64 : Nat) : Int) := by
    rw [Int.natCast_dvd_natCast]; exact Nat.pow_dvd_pow 2 (by omega)
  show IntKind.i64.wrap ((BitVec.ofInt 64 x &&& BitVec.ofInt 64 ((2 ^ k - 1 : Nat) : Int)).toNat : Int) = _
  rw [BitVec.toNat_and, BitVec.ofInt_natCast, BitVec.toNat_ofNat, Nat.mod_eq_of_lt (a := 2 ^ k - 1) (by omega), Nat.and_two_pow_sub_one_eq_mod, BitVec.toNat_ofInt]
  have h1 : (((x % ((2 ^ 64 : Nat) : Int)).toNat % 2 ^ k : Nat) : Int) = x % ((2 ^ k : Nat) : Int) := by
    rw [Int.natCast_emod, Int.toNat_of_nonneg (Int.emod_nonneg _ (by decide)), Int.emod_emod_of_dvd _ hdvd]
  rw [h1]
  have h2 : 0 ≤ x % ((2 ^ k : Nat) : Int) := Int.emod_nonneg _ (by omega)
  have h3 : x % ((2 ^ k : Nat) : Int) < ((2 ^ k : Nat) : Int) := Int.emod_lt_of_pos _ (by omega)
  generalize x % ((2 ^ k : Nat) : Int) = y at *
  have h4 : ((2 ^ k : Nat) : Int) < ((4294967296 : Nat) : Int) := Int.ofNat_lt.mpr hp
  rw [i64_w]
  unfold wrap64
  omega
theorem and15 (x : Int) : bits .and .i64 x 15 = x % 16 := and_low x 4 (by decide)
theorem and3 (x : Int) : bits .and .i64 x 3 = x % 4 := and_low x 2 (by decide)
theorem or_parts : ∀ a < 16, ∀ b < 16, ∀ y < 4, bits .or .i64 (bits .or .i64 ((a * 64 : Nat) : Int) ((b * 4 : Nat) : Int)) ((y : Nat) : Int) = ((a * 64 + b * 4 + y : Nat) : Int) := by decide +kernel
theorem or_int (a b y : Int) (ha : 0 ≤ a ∧ a < 16) (hb : 0 ≤ b ∧ b < 16) (hy : 0 ≤ y ∧ y < 4) : bits .or .i64 (bits .or .i64 (a * 64) (b * 4)) y = a * 64 + b * 4 + y := by
  have h := or_parts a.toNat (by omega) b.toNat (by omega) y.toNat (by omega)
  have e1 : ((a.toNat * 64 : Nat) : Int) = a * 64 := by omega
  have e2 : ((b.toNat * 4 : Nat) : Int) = b * 4 := by omega
  have e3 : ((y.toNat : Nat) : Int) = y := by omega
  have e4 : ((a.toNat * 64 + b.toNat * 4 + y.toNat : Nat) : Int) = a * 64 + b * 4 + y := by omega
  rw [e1, e2, e3, e4] at h
  exact h
def inS (x y z : Int) : Bool := decide ((-65536 ≤ x ∧ x < 65536) ∧ (-65536 ≤ z ∧ z < 65536) ∧ 0 ≤ y ∧ y < 4)
/-- A spot's region, and its place there. -/
def ofS (x y z : Int) : Int × Int × Int × Bool := if inS x y z then (x / 16, z / 16, z % 16 * 64 + x % 16 * 4 + y, true) else (0, 0, 0, false)
/-- The spot of a region and a place there. -/
def backS (x z at_ : Int) : Int × Int × Int × Bool := if (-4096 ≤ x ∧ x ≤ 4095) ∧ (-4096 ≤ z ∧ z ≤ 4095) ∧ 0 ≤ at_ ∧ at_ ≤ 1023 then (x * 16 + at_ / 4 % 16, at_ % 4, z * 16 + at_ / 64, true) else (0, 0, 0, false)
theorem may_f (x y z : Int) : PRegionPlaces.place_MaySpot.f x y z = some (inS x y z) := by
  unfold PRegionPlaces.place_MaySpot.f inS
  by_cases h1 : -65536 ≤ x <;> by_cases h2 : x < 65536 <;> by_cases h3 : -65536 ≤ z <;> by_cases h4 : z < 65536 <;> by_cases h5 : 0 ≤ y <;> simp [h1, h2, h3, h4, h5]
theorem may_ref (x y z : Int) : PRegionPlaces.bedrockref02_MaySpot.f x y z = some (inS x y z) := by
  unfold PRegionPlaces.bedrockref02_MaySpot.f PRegionPlaces.bedrockref02_within.f inS
  by_cases h1 : -65536 ≤ x <;> by_cases h2 : x < 65536 <;> by_cases h3 : -65536 ≤ z <;> by_cases h4 : z < 65536 <;> by_cases h5 : 0 ≤ y <;> simp [h1, h2, h3, h4, h5]
theorem w64 (a : Int) (h : -9223372036854775808 ≤ a ∧ a < 9223372036854775808) : wrap64 a = a := by unfold wrap64; omega
theorem of_f (x y z : Int) : PRegionPlaces.region_Of.f x y z = some (ofS x y z) := by
  unfold PRegionPlaces.region_Of.f ofS
  have h : PRegionPlaces.place_MaySpot.f x y z = some (inS x y z) := may_f x y z
  rw [h]
  simp only [Option.bind_some]
  cases hi : inS x y z with
  | false => simp
  | true =>
    have hr := of_decide_eq_true hi
    simp only [if_true]
    rw [and15, and15, w64 (z % 16 * 64) (by omega), w64 (x % 16 * 4) (by omega), or_int _ _ _ (by omega) (by omega) (by omega)]
theorem down_f (a : Int) (h : -65536 ≤ a ∧ a < 65536) : PRegionPlaces.bedrockref24_down.f a = some (a / 16, a % 16) := by
  unfold PRegionPlaces.bedrockref24_down.f
  have hd : Int.tdiv a 16 = if 0 ≤ a then a / 16 else -((-a) / 16) := by
    split
    · exact Int.tdiv_eq_ediv_of_nonneg (by assumption)
    · have h1 : Int.tdiv (-a) 16 = (-a) / 16 := Int.tdiv_eq_ediv_of_nonneg (by omega)
      rw [Int.neg_tdiv] at h1; omega
  have hm : Int.tmod a 16 = a - 16 * Int.tdiv a 16 := by have := Int.mul_tdiv_add_tmod a 16; omega
  rw [hm]
  generalize Int.tdiv a 16 = q at *
  have hq : -65536 ≤ q ∧ q ≤ 65536 := by split at hd <;> omega
  rw [w64 q (by omega)]
  by_cases hn : a - 16 * q < 0
  · rw [if_pos hn, w64 (q - 1) (by omega), w64 _ (by omega)]
    congr 2 <;> (split at hd <;> omega)
  · rw [if_neg hn]
    congr 2 <;> (split at hd <;> omega)
theorem of_ref (x y z : Int) : PRegionPlaces.bedrockref24_Of.f x y z = some (ofS x y z) := by
  unfold PRegionPlaces.bedrockref24_Of.f ofS
  have h : PRegionPlaces.bedrockref02_MaySpot.f x y z = some (inS x y z) := may_ref x y z
  rw [h]
  simp only [Option.bind_some]
  cases hi : inS x y z with
  | false => simp
  | true =>
    have hr := of_decide_eq_true hi
    have h1 : PRegionPlaces.bedrockref24_down.f x = some (x / 16, x % 16) := down_f x hr.1
    have h2 : PRegionPlaces.bedrockref24_down.f z = some (z / 16, z % 16) := down_f z hr.2.1
    simp only [if_true]
    rw [h1, h2]
    simp only [Option.bind_some]
    rw [w64 (64 * (z % 16)) (by omega), w64 (4 * (x % 16)) (by omega), w64 (64 * (z % 16) + 4 * (x % 16)) (by omega), w64 _ (by omega), Int.mul_comm 64, Int.mul_comm 4]
theorem back_f (x z a : Int) : PRegionPlaces.region_Back.f x z a = some (backS x z a) := by
  unfold PRegionPlaces.region_Back.f PRegionPlaces.region_within.f backS
  by_cases h1 : -4096 ≤ x <;> by_cases h2 : x ≤ 4095 <;> by_cases h3 : -4096 ≤ z <;> by_cases h4 : z ≤ 4095 <;> by_cases h5 : 0 ≤ a <;> by_cases h6 : a ≤ 1023 <;> simp [h1, h2, h3, h4, h5, h6]
  rw [and15, and3, w64 (x * 16) (by omega), w64 (z * 16) (by omega), w64 _ (by omega), w64 _ (by omega)]
  simp
theorem back_ref (x z a : Int) : PRegionPlaces.bedrockref24_Back.f x z a = some (backS x z a) := by
  unfold PRegionPlaces.bedrockref24_Back.f PRegionPlaces.bedrockref24_within.f backS
  by_cases h1 : -4096 ≤ x <;> by_cases h2 : x ≤ 4095 <;> by_cases h3 : -4096 ≤ z <;> by_cases h4 : z ≤ 4095 <;> by_cases h5 : 0 ≤ a <;> by_cases h6 : a ≤ 1023 <;> simp [h1, h2, h3, h4, h5, h6]
  rw [Int.tdiv_eq_ediv_of_nonneg h5, Int.tdiv_eq_ediv_of_nonneg h5, w64 (16 * x) (by omega), w64 (16 * z) (by omega), w64 (a / 4) (by omega), w64 (a / 64) (by omega), Int.tmod_eq_emod_of_nonneg h5, Int.tmod_eq_emod_of_nonneg (by omega), w64 _ (by omega), w64 _ (by omega), Int.mul_comm 16, Int.mul_comm 16]
  simp
end Go.Proofs.Ytijjecnmdhefbaa.RG
