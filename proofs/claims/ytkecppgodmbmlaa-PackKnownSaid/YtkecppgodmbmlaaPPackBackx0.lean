-- PRINTED BY print.sh 35421559b90ae4d0a3588c463048766b98c2df88dd9212a6774a882060cdf62d: not written by this session
import Derived.Test.YtkecppgodmbmlaaProg
import Derived.Below
import Derived.Deep.Draws
import Derived.Deep.AppendLies
import Derived.Maps.AppendAt
import Derived.OwnWalk
import Derived.Laws.BytesArg
import Derived.Laws.MakeOwn
import Derived.Laws.OwnMore
import Derived.Deep.OwnRows
import Derived.Tactics
import Derived.Lib.ConvBytes
import Derived.Laws.Slices
import Derived.WalkKit
import Derived.KernelRfl
import Derived.RowKit3
import Derived.Deep.LoopGhost
import Derived.Deep.QuietTactic
import Derived.BigQuiet
import Derived.WideLaws
import Derived.Deep.DeepCutAuto
import Derived.Deep.CutBlock
import Derived.Deep.RegionHeld3
import Derived.Laws.Rows
import Derived.Lib.AppendStr
import Derived.ArgAppend
import Derived.Laws.IdiomCopy
import Derived.OrdersHeld
import Derived.Laws.BitsLemmas
import Derived.RowKit
import Derived.Test.YtkecppgodmbmlaaWWords
import Derived.Test.YtkecppgodmbmlaaWLast
import Derived.Test.YtkecppgodmbmlaaWTab
import Derived.Test.YtkecppgodmbmlaaWFour
import Derived.Test.YtkecppgodmbmlaaWQPut
import Derived.Test.YtkecppgodmbmlaaWApart
import Derived.Test.YtkecppgodmbmlaaWArr
import Derived.Test.YtkecppgodmbmlaaWZeros
import Derived.Test.YtkecppgodmbmlaaWFoot
import Derived.Test.YtkecppgodmbmlaaWKept
import Derived.Test.YtkecppgodmbmlaaWShare
import Derived.Test.YtkecppgodmbmlaaWN
import Derived.Test.YtkecppgodmbmlaaWFootNe
import Derived.Test.YtkecppgodmbmlaaWAt
import Derived.Test.YtkecppgodmbmlaaWEqStruct
import Derived.Test.YtkecppgodmbmlaaWRepsOne
import Derived.Test.YtkecppgodmbmlaaWInv
import Derived.Test.YtkecppgodmbmlaaWInvWords
import Derived.Test.YtkecppgodmbmlaaWGuard
import Derived.Test.YtkecppgodmbmlaaWNEv
import Derived.Test.YtkecppgodmbmlaaWMore
namespace Go.Proofs.Ytkecppgodmbmlaa.PPackBack
open Go.RowKit Go.Proofs.YtkecppgodmbmlaaW.PrintWords Go.Proofs.YtkecppgodmbmlaaW.PrintLast Go.Proofs.YtkecppgodmbmlaaW.PrintMore
attribute [local go_sem] max2_int min2_int max_two min_two max_three min_three max_four min_four   -- for this text's walks alone
set_option linter.unusedVariables false
set_option linter.unusedSimpArgs false



def errW : Option Int → Value
  | none => .nilIface
  | some c => .iface 0 (.int .i64 c)
theorem errW_none : errW none = .nilIface := rfl
theorem errW_some (c : Int) : errW (some c) = .iface 0 (.int .i64 c) := rfl

theorem info5 : (Try.prog.info? 5).map (fun i => (i.zero, i.size, i.bytes)) = some (some (.int .u8 0), 1, 1) := by kernel_rfl
-- the values' own types

end Go.Proofs.Ytkecppgodmbmlaa.PPackBack
