/- For every draw and number the program's draw below it is the reference's. -/
import Derived.Test.YtfogcdmibakhbaaPHashBelowx1
import Derived.Test.YtfogcdmibakhbaaHashPlain
import Derived.KernelRfl
namespace Go.Proofs.Ytfogcdmibakhbaa.Pure
open Go.RowKit Go.Proofs.Ytfogcdmibakhbaa.PHashBelow Go.Proofs.YtfogcdmibakhbaaW.PrintWords Go.Proofs.YtfogcdmibakhbaaW.PrintLast

theorem awake_f : bedrocklaw03_awake.f = some true := by kernel_rfl
theorem HashBelow : bedrocklaw03_HashBelow.Pure := by
  intro a0 a1 w0 w1
  have h0 := HP.u64_wf w0
  have h1 := HP.i64_wf w1
  have e : hash_Below.f a0 a1 = bedrockref03_Below.f a0 a1 := by
    unfold hash_Below.f bedrockref03_Below.f
    by_cases c : a1 < 1
    · rw [if_pos c, if_pos c]
    · rw [if_neg c, if_neg c]
      have hw := HP.wu64_id a1 (by omega) (by omega)
      show some (wrap64 (HP.hi a0 (IntKind.u64.wrap a1))) = some (wrap64 (HP.lo a0 (IntKind.u64.wrap a1)))
      rw [hw, HP.hi_eq a0 a1 h0.1 h0.2 (by omega) (by omega), HP.lo_eq a0 a1 h0.1 h0.2 (by omega) (by omega)]
  have g : ∃ r, bedrockref03_Below.f a0 a1 = some r := by unfold bedrockref03_Below.f; split <;> exact ⟨_, rfl⟩
  obtain ⟨r, hr⟩ := g
  unfold bedrocklaw03_HashBelow.f
  rw [e, hr, awake_f]
  simp only [Option.bind_some, if_true]
end Go.Proofs.Ytfogcdmibakhbaa.Pure
