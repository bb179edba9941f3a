/-
  NARROWER THAN 'FOR EVERY INPUT', by the rows' own cells (each row's printed sentence says how): RegionSupers: laid · RegionSuperAgain: laid · RegionKnown: laid.
  DERIVED. THE GIVEN ROWS OF THIS SEAT. 3 by the template 'for every input the law returns true; each argument reads behind the call as it read before'; 0 by the template 'total and deterministic' (their statements: YtijjecnmdhefbaaDoorTotals.lean).
  GIVEN WITH THE SEED: the statements are not yours to turn. If you find one false, say at which input.
  Laid BY PROGRAM, IN A SANDBOX (cutbox-rows.mjs): the forced cells as the released guide's own fill.sh prints them over the translation 8c3b86d54ad49d85… (all of the seat's roots in one cut). By AI agents, Wed Nov 11 2026. No macro, syntax, notation, axiom, sorry.
-/
import Derived.Test.YtijjecnmdhefbaaDoorChecked
import GoSem.Claim
import GoSem.ClaimJoined
import GoSem.ClaimMapViews
import Derived.JoinedTies
import Derived.KernelRfl
namespace Go.Proofs.YtijjecnmdhefbaaDoor
/- THE CELL 'sum', in the pinned program and in every row, IS THE sha256 OF THE DUMP (.gsa) THAT YtijjecnmdhefbaaDoorProg.lean LOADS. Nothing in Lean hashes anything: it is a label: what it is worth is what the hold of that sum in a sandbox is worth. -/
noncomputable def Tryd.pinned : Pinned := { name := "ytijjecnmdhefbaadoor", sum := "8c3b86d54ad49d858d29a56acccabf4e4730de224b1afaccf924baa3682a17aa", checked := Tryd.checked }
namespace Rows
def none {H : Type} : Left H := { results := [], args := [] }

/- WHAT THE LISTED PACKAGE-LEVEL VARIABLES READ AS WHEN THE CALL BEGINS. Each datum BY PROGRAM (the guide's laid-datum.mjs) off the statement by which the dump's own 'gosem.cut.vars' lays the variable. In a bare row this is a premise. The card (YtijjecnmdhefbaaDoorCards.lean) ties it to the program's text. -/
def laid_bedrock_crc_halves {H : Type} : DataW H := .agg [.lit (.int .u32 0), .lit (.int .u32 274646895), .lit (.int .u32 549293790), .lit (.int .u32 820201905), .lit (.int .u32 1098587580), .lit (.int .u32 1361435347), .lit (.int .u32 1640403810), .lit (.int .u32 1905808397), .lit (.int .u32 2197175160), .lit (.int .u32 2460548119), .lit (.int .u32 2722870694), .lit (.int .u32 2987750089), .lit (.int .u32 3280807620), .lit (.int .u32 3553878443), .lit (.int .u32 3811616794), .lit (.int .u32 4084100981)]

/-- 'bedrocklaw24.RegionSupers': WHATEVER THE INPUT: true; the input reads as it did. -/
def regionSupersSpec : ChangeSpec := { name := "regionSupers", fn := fun _ => fun
  | [d1, d2] => { results := [.lit (.bool true)], args := [d1, d2] }
  | _ => none }
def regionSupersRow : OpenClaim := { program := "ytijjecnmdhefbaadoor", sum := "8c3b86d54ad49d858d29a56acccabf4e4730de224b1afaccf924baa3682a17aa", func := "bedrock/bedrocklaw24.RegionSupers", spec := "regionSupers", inPlace := ["internal/abi.NoEscape", "internal/bytealg.MakeNoZero"], unfollowed := true, recurses := true, named := ["bedrock/crc.halves"], apart := false, laid := [("bedrock/crc.halves", laid_bedrock_crc_halves)] }
def RegionSupersSaid : Prop := regionSupersRow.holds Tryd.pinned (OpenSpec.ofChange regionSupersSpec)

/-- ITS FALSE NEIGHBOUR: 'it returns false'. Refute it at one input. -/
def regionSupersWrong : ChangeSpec := { name := "regionSupers", fn := fun _ => fun
  | [d1, d2] => { results := [.lit (.bool false)], args := [d1, d2] }
  | _ => none }
def RegionSupersWrongFalsely : Prop := regionSupersRow.holds Tryd.pinned (OpenSpec.ofChange regionSupersWrong)

/-- 'bedrocklaw24.RegionSuperAgain': WHATEVER THE INPUT: true; the input reads as it did. -/
def regionSuperAgainSpec : ChangeSpec := { name := "regionSuperAgain", fn := fun _ => fun
  | [d1, d2] => { results := [.lit (.bool true)], args := [d1, d2] }
  | _ => none }
def regionSuperAgainRow : OpenClaim := { program := "ytijjecnmdhefbaadoor", sum := "8c3b86d54ad49d858d29a56acccabf4e4730de224b1afaccf924baa3682a17aa", func := "bedrock/bedrocklaw24.RegionSuperAgain", spec := "regionSuperAgain", inPlace := ["internal/abi.NoEscape", "internal/bytealg.MakeNoZero"], unfollowed := true, recurses := true, named := ["bedrock/crc.halves"], apart := false, laid := [("bedrock/crc.halves", laid_bedrock_crc_halves)] }
def RegionSuperAgainSaid : Prop := regionSuperAgainRow.holds Tryd.pinned (OpenSpec.ofChange regionSuperAgainSpec)

/-- ITS FALSE NEIGHBOUR: 'it returns false'. Refute it at one input. -/
def regionSuperAgainWrong : ChangeSpec := { name := "regionSuperAgain", fn := fun _ => fun
  | [d1, d2] => { results := [.lit (.bool false)], args := [d1, d2] }
  | _ => none }
def RegionSuperAgainWrongFalsely : Prop := regionSuperAgainRow.holds Tryd.pinned (OpenSpec.ofChange regionSuperAgainWrong)

/-- 'bedrocklaw24.RegionKnown': WHATEVER THE INPUT: true; the input reads as it did. -/
def regionKnownSpec : ChangeSpec := { name := "regionKnown", fn := fun _ => fun
  | [] => { results := [.lit (.bool true)], args := [] }
  | _ => none }
def regionKnownRow : OpenClaim := { program := "ytijjecnmdhefbaadoor", sum := "8c3b86d54ad49d858d29a56acccabf4e4730de224b1afaccf924baa3682a17aa", func := "bedrock/bedrocklaw24.RegionKnown", spec := "regionKnown", inPlace := ["internal/abi.NoEscape", "internal/bytealg.MakeNoZero"], unfollowed := true, recurses := true, named := ["bedrock/crc.halves"], apart := false, laid := [("bedrock/crc.halves", laid_bedrock_crc_halves)] }
def RegionKnownSaid : Prop := regionKnownRow.holds Tryd.pinned (OpenSpec.ofChange regionKnownSpec)

/-- ITS FALSE NEIGHBOUR: 'it returns false'. Refute it at one input. -/
def regionKnownWrong : ChangeSpec := { name := "regionKnown", fn := fun _ => fun
  | [] => { results := [.lit (.bool false)], args := [] }
  | _ => none }
def RegionKnownWrongFalsely : Prop := regionKnownRow.holds Tryd.pinned (OpenSpec.ofChange regionKnownWrong)

/- THE SECOND FORM. 'bulk': how many values and letters a reading holds, each counted each time it is reached (what is shared counts as often as it is met; a slice's spare places count too). A statement '..UptoSaid' is the law's where the arguments, and the package variables that the reading takes, are together of bulk at most 1048576: NARROWER than '..Said'. Prove '..Said' where nothing that the law and all that it calls make is longer than what came in: it says more and counts as full. Else prove '..UptoSaid'. A law counts once. -/
mutual
def uptoBulk {H : Type} : DataW H → Nat
  | .lit (.string bytes) => bytes.length + 1
  | .lit _ => 1
  | .nil => 1
  | .ptr d => uptoBulk d + 1
  | .slice elems spare => uptoBulkAll elems + uptoBulkAll spare + 1
  | .agg parts => uptoBulkAll parts + 1
  | .iface _ d => uptoBulk d + 1
  | .map entries => uptoBulkEntries entries + 1
  | .held _ => 1
def uptoBulkAll {H : Type} : List (DataW H) → Nat
  | [] => 0
  | d :: r => uptoBulk d + uptoBulkAll r
def uptoBulkEntries {H : Type} : List (Lit × DataW H) → Nat
  | [] => 0
  | x :: r => uptoBulkEntry x + uptoBulkEntries r
def uptoBulkEntry {H : Type} : Lit × DataW H → Nat
  | (.string bytes, d) => bytes.length + uptoBulk d + 1
  | (_, d) => uptoBulk d + 1
 end
def uptoSmall : (H : Type) → List (DataW H) → Bool := fun _ ds => decide (uptoBulkAll ds ≤ 1048576)
def OpenSpec.upto (s : _root_.Go.ChangeSpec) : _root_.Go.OpenSpec := { _root_.Go.OpenSpec.ofChange s with cond := some uptoSmall }

/-- 'bedrocklaw24.RegionSupers', WHERE WHAT IT READS IS OF BULK AT MOST 1048576: true; the input reads as it did. -/
def regionSupersUptoRow : OpenClaim := { program := "ytijjecnmdhefbaadoor", sum := "8c3b86d54ad49d858d29a56acccabf4e4730de224b1afaccf924baa3682a17aa", func := "bedrock/bedrocklaw24.RegionSupers", spec := "regionSupers", inPlace := ["internal/abi.NoEscape", "internal/bytealg.MakeNoZero"], unfollowed := true, recurses := true, named := ["bedrock/crc.halves"], apart := false, laid := [("bedrock/crc.halves", laid_bedrock_crc_halves)], narrowed := true }
def RegionSupersUptoSaid : Prop := regionSupersUptoRow.holds Tryd.pinned (OpenSpec.upto regionSupersSpec)

/-- 'bedrocklaw24.RegionSuperAgain', WHERE WHAT IT READS IS OF BULK AT MOST 1048576: true; the input reads as it did. -/
def regionSuperAgainUptoRow : OpenClaim := { program := "ytijjecnmdhefbaadoor", sum := "8c3b86d54ad49d858d29a56acccabf4e4730de224b1afaccf924baa3682a17aa", func := "bedrock/bedrocklaw24.RegionSuperAgain", spec := "regionSuperAgain", inPlace := ["internal/abi.NoEscape", "internal/bytealg.MakeNoZero"], unfollowed := true, recurses := true, named := ["bedrock/crc.halves"], apart := false, laid := [("bedrock/crc.halves", laid_bedrock_crc_halves)], narrowed := true }
def RegionSuperAgainUptoSaid : Prop := regionSuperAgainUptoRow.holds Tryd.pinned (OpenSpec.upto regionSuperAgainSpec)

/-- 'bedrocklaw24.RegionKnown', WHERE WHAT IT READS IS OF BULK AT MOST 1048576: true; the input reads as it did. -/
def regionKnownUptoRow : OpenClaim := { program := "ytijjecnmdhefbaadoor", sum := "8c3b86d54ad49d858d29a56acccabf4e4730de224b1afaccf924baa3682a17aa", func := "bedrock/bedrocklaw24.RegionKnown", spec := "regionKnown", inPlace := ["internal/abi.NoEscape", "internal/bytealg.MakeNoZero"], unfollowed := true, recurses := true, named := ["bedrock/crc.halves"], apart := false, laid := [("bedrock/crc.halves", laid_bedrock_crc_halves)], narrowed := true }
def RegionKnownUptoSaid : Prop := regionKnownUptoRow.holds Tryd.pinned (OpenSpec.upto regionKnownSpec)

end Rows
end Go.Proofs.YtijjecnmdhefbaaDoor
