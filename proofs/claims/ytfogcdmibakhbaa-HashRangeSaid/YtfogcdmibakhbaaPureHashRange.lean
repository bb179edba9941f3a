/- For all draws h and g and every number n: what is drawn below n is from 0 to n - 1, it rises with the draw, it is 0 of 0 and n - 1 of the greatest draw. -/
import Derived.Test.YtfogcdmibakhbaaPHashRangex1
import Derived.Test.YtfogcdmibakhbaaHashPlain
import Derived.KernelRfl
namespace Go.Proofs.Ytfogcdmibakhbaa.Pure
open Go.RowKit Go.Proofs.Ytfogcdmibakhbaa.PHashRange Go.Proofs.YtfogcdmibakhbaaW.PrintWords Go.Proofs.YtfogcdmibakhbaaW.PrintLast

theorem awake_f : bedrocklaw03_awake.f = some true := by kernel_rfl
theorem below_no (h n : Int) (hn : n < 1) : hash_Below.f h n = some 0 := by unfold hash_Below.f; rw [if_pos hn]
theorem below_f (h n : Int) (h0 : 0 ≤ h) (h1 : h < 18446744073709551616) (n0 : 1 ≤ n) (n1 : n < 9223372036854775808) : hash_Below.f h n = some (h * n / 18446744073709551616) := by
  unfold hash_Below.f
  rw [if_neg (by omega), HP.wu64_id n (by omega) (by omega)]
  show some (wrap64 (HP.hi h n)) = _
  rw [HP.hi_eq h n h0 h1 (by omega) (by omega)]
  have := HP.below_range h n h0 h1 n0
  congr 1
  unfold wrap64
  omega
theorem HashRange : bedrocklaw03_HashRange.Pure := by
  intro h g n w0 w1 w2
  have h0 := HP.u64_wf w0
  have h1 := HP.u64_wf w1
  have h2 := HP.i64_wf w2
  unfold bedrocklaw03_HashRange.f
  by_cases c : n < 1
  · rw [below_no h n c, below_no g n c, awake_f]
    simp only [Option.bind_some, if_pos c, if_true]
  · have hw : wrap64 (n - 1) = n - 1 := by unfold wrap64; omega
    have rh := HP.below_range h n h0.1 h0.2 (by omega)
    have z : (0 : Int) * n / 18446744073709551616 = 0 := by simp
    rw [below_f h n h0.1 h0.2 (by omega) (by omega), below_f g n h1.1 h1.2 (by omega) (by omega), below_f 0 n (by omega) (by omega) (by omega) (by omega),
      below_f 18446744073709551615 n (by omega) (by omega) (by omega) (by omega), awake_f, hw, z, HP.below_top n (by omega) (by omega)]
    simp only [Option.bind_some, if_neg c, if_true]
    rw [if_pos rh.1, if_pos rh.2]
    have m1 : h ≤ g → h * n / 18446744073709551616 ≤ g * n / 18446744073709551616 := HP.below_mono h g n (by omega)
    have m2 : g ≤ h → g * n / 18446744073709551616 ≤ h * n / 18446744073709551616 := HP.below_mono g h n (by omega)
    by_cases a : h > g
    · rw [if_pos a, if_neg (by omega), if_pos (m2 (by omega))]
    · rw [if_neg a, if_pos (m1 (by omega))]
      by_cases b : g > h
      · rw [if_pos b]
      · rw [if_neg b, if_pos (m2 (by omega))]
end Go.Proofs.Ytfogcdmibakhbaa.Pure
