/- The examples of the chapter hash hold. -/
import Derived.Test.YtfogcdmibakhbaaPHashKnownx1
import Derived.KernelRfl
namespace Go.Proofs.Ytfogcdmibakhbaa.Pure
open Go.RowKit Go.Proofs.Ytfogcdmibakhbaa.PHashKnown Go.Proofs.YtfogcdmibakhbaaW.PrintWords Go.Proofs.YtfogcdmibakhbaaW.PrintLast

theorem HashKnown : bedrocklaw03_HashKnown.Pure := ⟨12, by kernel_rfl⟩
end Go.Proofs.Ytfogcdmibakhbaa.Pure
