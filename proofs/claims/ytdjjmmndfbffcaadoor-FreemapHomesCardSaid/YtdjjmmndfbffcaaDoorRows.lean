/-
  NARROWER THAN 'FOR EVERY INPUT', by the rows' own cells (each row's printed sentence says how): FreemapLeast: laid · FreemapAdds: laid · FreemapPlays: laid · FreemapLeads: laid · FreemapHomes: laid · FreemapBack: laid · FreemapTurned: laid · FreemapKnown: laid.
  DERIVED. THE GIVEN ROWS OF THIS SEAT. 8 by the template 'for every input the law returns true; each argument reads behind the call as it read before'; 0 by the template 'total and deterministic' (their statements: YtdjjmmndfbffcaaDoorTotals.lean).
  GIVEN WITH THE SEED: the statements are not yours to turn. If you find one false, say at which input.
  Laid BY PROGRAM, IN A SANDBOX (cutbox-rows.mjs): the forced cells as the released guide's own fill.sh prints them over the translation 7a90d5ef74206c19… (all of the seat's roots in one cut). By AI agents, Wed Nov 11 2026. No macro, syntax, notation, axiom, sorry.
-/
import Derived.Test.YtdjjmmndfbffcaaDoorChecked
import GoSem.Claim
import GoSem.ClaimJoined
import GoSem.ClaimMapViews
import Derived.JoinedTies
import Derived.KernelRfl
namespace Go.Proofs.YtdjjmmndfbffcaaDoor
/- THE CELL 'sum', in the pinned program and in every row, IS THE sha256 OF THE DUMP (.gsa) THAT YtdjjmmndfbffcaaDoorProg.lean LOADS. Nothing in Lean hashes anything: it is a label: what it is worth is what the hold of that sum in a sandbox is worth. -/
noncomputable def Tryd.pinned : Pinned := { name := "ytdjjmmndfbffcaadoor", sum := "7a90d5ef74206c19ee9a7fb044f9bb52171a2252e0fcab0a992ebfd94fffbf4b", checked := Tryd.checked }
namespace Rows
def none {H : Type} : Left H := { results := [], args := [] }

/- WHAT THE LISTED PACKAGE-LEVEL VARIABLES READ AS WHEN THE CALL BEGINS. Each datum BY PROGRAM (the guide's laid-datum.mjs) off the statement by which the dump's own 'gosem.cut.vars' lays the variable. In a bare row this is a premise. The card (YtdjjmmndfbffcaaDoorCards.lean) ties it to the program's text. -/
def laid_math_bits_deBruijn64tab {H : Type} : DataW H := .agg [.lit (.int .u8 0), .lit (.int .u8 1), .lit (.int .u8 56), .lit (.int .u8 2), .lit (.int .u8 57), .lit (.int .u8 49), .lit (.int .u8 28), .lit (.int .u8 3), .lit (.int .u8 61), .lit (.int .u8 58), .lit (.int .u8 42), .lit (.int .u8 50), .lit (.int .u8 38), .lit (.int .u8 29), .lit (.int .u8 17), .lit (.int .u8 4), .lit (.int .u8 62), .lit (.int .u8 47), .lit (.int .u8 59), .lit (.int .u8 36), .lit (.int .u8 45), .lit (.int .u8 43), .lit (.int .u8 51), .lit (.int .u8 22), .lit (.int .u8 53), .lit (.int .u8 39), .lit (.int .u8 33), .lit (.int .u8 30), .lit (.int .u8 24), .lit (.int .u8 18), .lit (.int .u8 12), .lit (.int .u8 5), .lit (.int .u8 63), .lit (.int .u8 55), .lit (.int .u8 48), .lit (.int .u8 27), .lit (.int .u8 60), .lit (.int .u8 41), .lit (.int .u8 37), .lit (.int .u8 16), .lit (.int .u8 46), .lit (.int .u8 35), .lit (.int .u8 44), .lit (.int .u8 21), .lit (.int .u8 52), .lit (.int .u8 32), .lit (.int .u8 23), .lit (.int .u8 11), .lit (.int .u8 54), .lit (.int .u8 26), .lit (.int .u8 40), .lit (.int .u8 15), .lit (.int .u8 34), .lit (.int .u8 20), .lit (.int .u8 31), .lit (.int .u8 10), .lit (.int .u8 25), .lit (.int .u8 14), .lit (.int .u8 19), .lit (.int .u8 9), .lit (.int .u8 13), .lit (.int .u8 8), .lit (.int .u8 7), .lit (.int .u8 6)]
def laid_bedrock_crc_halves {H : Type} : DataW H := .agg [.lit (.int .u32 0), .lit (.int .u32 274646895), .lit (.int .u32 549293790), .lit (.int .u32 820201905), .lit (.int .u32 1098587580), .lit (.int .u32 1361435347), .lit (.int .u32 1640403810), .lit (.int .u32 1905808397), .lit (.int .u32 2197175160), .lit (.int .u32 2460548119), .lit (.int .u32 2722870694), .lit (.int .u32 2987750089), .lit (.int .u32 3280807620), .lit (.int .u32 3553878443), .lit (.int .u32 3811616794), .lit (.int .u32 4084100981)]

/-- 'bedrocklaw22.FreemapLeast': WHATEVER THE INPUT: true; the input reads as it did. -/
def freemapLeastSpec : ChangeSpec := { name := "freemapLeast", fn := fun _ => fun
  | [d1, d2, d3] => { results := [.lit (.bool true)], args := [d1, d2, d3] }
  | _ => none }
def freemapLeastRow : OpenClaim := { program := "ytdjjmmndfbffcaadoor", sum := "7a90d5ef74206c19ee9a7fb044f9bb52171a2252e0fcab0a992ebfd94fffbf4b", func := "bedrock/bedrocklaw22.FreemapLeast", spec := "freemapLeast", recurses := true, named := ["math/bits.deBruijn64tab"], apart := false, laid := [("math/bits.deBruijn64tab", laid_math_bits_deBruijn64tab)] }
def FreemapLeastSaid : Prop := freemapLeastRow.holds Tryd.pinned (OpenSpec.ofChange freemapLeastSpec)

/-- ITS FALSE NEIGHBOUR: 'it returns false'. Refute it at one input. -/
def freemapLeastWrong : ChangeSpec := { name := "freemapLeast", fn := fun _ => fun
  | [d1, d2, d3] => { results := [.lit (.bool false)], args := [d1, d2, d3] }
  | _ => none }
def FreemapLeastWrongFalsely : Prop := freemapLeastRow.holds Tryd.pinned (OpenSpec.ofChange freemapLeastWrong)

/-- 'bedrocklaw22.FreemapAdds': WHATEVER THE INPUT: true; the input reads as it did. -/
def freemapAddsSpec : ChangeSpec := { name := "freemapAdds", fn := fun _ => fun
  | [d1, d2, d3] => { results := [.lit (.bool true)], args := [d1, d2, d3] }
  | _ => none }
def freemapAddsRow : OpenClaim := { program := "ytdjjmmndfbffcaadoor", sum := "7a90d5ef74206c19ee9a7fb044f9bb52171a2252e0fcab0a992ebfd94fffbf4b", func := "bedrock/bedrocklaw22.FreemapAdds", spec := "freemapAdds", recurses := true, named := ["math/bits.deBruijn64tab"], apart := false, laid := [("math/bits.deBruijn64tab", laid_math_bits_deBruijn64tab)] }
def FreemapAddsSaid : Prop := freemapAddsRow.holds Tryd.pinned (OpenSpec.ofChange freemapAddsSpec)

/-- ITS FALSE NEIGHBOUR: 'it returns false'. Refute it at one input. -/
def freemapAddsWrong : ChangeSpec := { name := "freemapAdds", fn := fun _ => fun
  | [d1, d2, d3] => { results := [.lit (.bool false)], args := [d1, d2, d3] }
  | _ => none }
def FreemapAddsWrongFalsely : Prop := freemapAddsRow.holds Tryd.pinned (OpenSpec.ofChange freemapAddsWrong)

/-- 'bedrocklaw22.FreemapPlays': WHATEVER THE INPUT: true; the input reads as it did. -/
def freemapPlaysSpec : ChangeSpec := { name := "freemapPlays", fn := fun _ => fun
  | [d1, d2] => { results := [.lit (.bool true)], args := [d1, d2] }
  | _ => none }
def freemapPlaysRow : OpenClaim := { program := "ytdjjmmndfbffcaadoor", sum := "7a90d5ef74206c19ee9a7fb044f9bb52171a2252e0fcab0a992ebfd94fffbf4b", func := "bedrock/bedrocklaw22.FreemapPlays", spec := "freemapPlays", recurses := true, named := ["math/bits.deBruijn64tab"], apart := false, laid := [("math/bits.deBruijn64tab", laid_math_bits_deBruijn64tab)] }
def FreemapPlaysSaid : Prop := freemapPlaysRow.holds Tryd.pinned (OpenSpec.ofChange freemapPlaysSpec)

/-- ITS FALSE NEIGHBOUR: 'it returns false'. Refute it at one input. -/
def freemapPlaysWrong : ChangeSpec := { name := "freemapPlays", fn := fun _ => fun
  | [d1, d2] => { results := [.lit (.bool false)], args := [d1, d2] }
  | _ => none }
def FreemapPlaysWrongFalsely : Prop := freemapPlaysRow.holds Tryd.pinned (OpenSpec.ofChange freemapPlaysWrong)

/-- 'bedrocklaw22.FreemapLeads': WHATEVER THE INPUT: true; the input reads as it did. -/
def freemapLeadsSpec : ChangeSpec := { name := "freemapLeads", fn := fun _ => fun
  | [d1, d2, d3] => { results := [.lit (.bool true)], args := [d1, d2, d3] }
  | _ => none }
def freemapLeadsRow : OpenClaim := { program := "ytdjjmmndfbffcaadoor", sum := "7a90d5ef74206c19ee9a7fb044f9bb52171a2252e0fcab0a992ebfd94fffbf4b", func := "bedrock/bedrocklaw22.FreemapLeads", spec := "freemapLeads", recurses := true, named := ["math/bits.deBruijn64tab", "bedrock/crc.halves"], apart := false, laid := [("bedrock/crc.halves", laid_bedrock_crc_halves), ("math/bits.deBruijn64tab", laid_math_bits_deBruijn64tab)] }
def FreemapLeadsSaid : Prop := freemapLeadsRow.holds Tryd.pinned (OpenSpec.ofChange freemapLeadsSpec)

/-- ITS FALSE NEIGHBOUR: 'it returns false'. Refute it at one input. -/
def freemapLeadsWrong : ChangeSpec := { name := "freemapLeads", fn := fun _ => fun
  | [d1, d2, d3] => { results := [.lit (.bool false)], args := [d1, d2, d3] }
  | _ => none }
def FreemapLeadsWrongFalsely : Prop := freemapLeadsRow.holds Tryd.pinned (OpenSpec.ofChange freemapLeadsWrong)

/-- 'bedrocklaw22.FreemapHomes': WHATEVER THE INPUT: true; the input reads as it did. -/
def freemapHomesSpec : ChangeSpec := { name := "freemapHomes", fn := fun _ => fun
  | [d1, d2, d3] => { results := [.lit (.bool true)], args := [d1, d2, d3] }
  | _ => none }
def freemapHomesRow : OpenClaim := { program := "ytdjjmmndfbffcaadoor", sum := "7a90d5ef74206c19ee9a7fb044f9bb52171a2252e0fcab0a992ebfd94fffbf4b", func := "bedrock/bedrocklaw22.FreemapHomes", spec := "freemapHomes", recurses := true, named := ["bedrock/crc.halves", "math/bits.deBruijn64tab"], apart := false, laid := [("bedrock/crc.halves", laid_bedrock_crc_halves), ("math/bits.deBruijn64tab", laid_math_bits_deBruijn64tab)] }
def FreemapHomesSaid : Prop := freemapHomesRow.holds Tryd.pinned (OpenSpec.ofChange freemapHomesSpec)

/-- ITS FALSE NEIGHBOUR: 'it returns false'. Refute it at one input. -/
def freemapHomesWrong : ChangeSpec := { name := "freemapHomes", fn := fun _ => fun
  | [d1, d2, d3] => { results := [.lit (.bool false)], args := [d1, d2, d3] }
  | _ => none }
def FreemapHomesWrongFalsely : Prop := freemapHomesRow.holds Tryd.pinned (OpenSpec.ofChange freemapHomesWrong)

/-- 'bedrocklaw22.FreemapBack': WHATEVER THE INPUT: true; the input reads as it did. -/
def freemapBackSpec : ChangeSpec := { name := "freemapBack", fn := fun _ => fun
  | [d1, d2, d3] => { results := [.lit (.bool true)], args := [d1, d2, d3] }
  | _ => none }
def freemapBackRow : OpenClaim := { program := "ytdjjmmndfbffcaadoor", sum := "7a90d5ef74206c19ee9a7fb044f9bb52171a2252e0fcab0a992ebfd94fffbf4b", func := "bedrock/bedrocklaw22.FreemapBack", spec := "freemapBack", recurses := true, named := ["math/bits.deBruijn64tab", "bedrock/crc.halves"], apart := false, laid := [("bedrock/crc.halves", laid_bedrock_crc_halves), ("math/bits.deBruijn64tab", laid_math_bits_deBruijn64tab)] }
def FreemapBackSaid : Prop := freemapBackRow.holds Tryd.pinned (OpenSpec.ofChange freemapBackSpec)

/-- ITS FALSE NEIGHBOUR: 'it returns false'. Refute it at one input. -/
def freemapBackWrong : ChangeSpec := { name := "freemapBack", fn := fun _ => fun
  | [d1, d2, d3] => { results := [.lit (.bool false)], args := [d1, d2, d3] }
  | _ => none }
def FreemapBackWrongFalsely : Prop := freemapBackRow.holds Tryd.pinned (OpenSpec.ofChange freemapBackWrong)

/-- 'bedrocklaw22.FreemapTurned': WHATEVER THE INPUT: true; the input reads as it did. -/
def freemapTurnedSpec : ChangeSpec := { name := "freemapTurned", fn := fun _ => fun
  | [d1, d2, d3] => { results := [.lit (.bool true)], args := [d1, d2, d3] }
  | _ => none }
def freemapTurnedRow : OpenClaim := { program := "ytdjjmmndfbffcaadoor", sum := "7a90d5ef74206c19ee9a7fb044f9bb52171a2252e0fcab0a992ebfd94fffbf4b", func := "bedrock/bedrocklaw22.FreemapTurned", spec := "freemapTurned", recurses := true, named := ["math/bits.deBruijn64tab", "bedrock/crc.halves"], apart := false, laid := [("bedrock/crc.halves", laid_bedrock_crc_halves), ("math/bits.deBruijn64tab", laid_math_bits_deBruijn64tab)] }
def FreemapTurnedSaid : Prop := freemapTurnedRow.holds Tryd.pinned (OpenSpec.ofChange freemapTurnedSpec)

/-- ITS FALSE NEIGHBOUR: 'it returns false'. Refute it at one input. -/
def freemapTurnedWrong : ChangeSpec := { name := "freemapTurned", fn := fun _ => fun
  | [d1, d2, d3] => { results := [.lit (.bool false)], args := [d1, d2, d3] }
  | _ => none }
def FreemapTurnedWrongFalsely : Prop := freemapTurnedRow.holds Tryd.pinned (OpenSpec.ofChange freemapTurnedWrong)

/-- 'bedrocklaw22.FreemapKnown': WHATEVER THE INPUT: true; the input reads as it did. -/
def freemapKnownSpec : ChangeSpec := { name := "freemapKnown", fn := fun _ => fun
  | [] => { results := [.lit (.bool true)], args := [] }
  | _ => none }
def freemapKnownRow : OpenClaim := { program := "ytdjjmmndfbffcaadoor", sum := "7a90d5ef74206c19ee9a7fb044f9bb52171a2252e0fcab0a992ebfd94fffbf4b", func := "bedrock/bedrocklaw22.FreemapKnown", spec := "freemapKnown", recurses := true, named := ["math/bits.deBruijn64tab", "bedrock/crc.halves"], apart := false, laid := [("bedrock/crc.halves", laid_bedrock_crc_halves), ("math/bits.deBruijn64tab", laid_math_bits_deBruijn64tab)] }
def FreemapKnownSaid : Prop := freemapKnownRow.holds Tryd.pinned (OpenSpec.ofChange freemapKnownSpec)

/-- ITS FALSE NEIGHBOUR: 'it returns false'. Refute it at one input. -/
def freemapKnownWrong : ChangeSpec := { name := "freemapKnown", fn := fun _ => fun
  | [] => { results := [.lit (.bool false)], args := [] }
  | _ => none }
def FreemapKnownWrongFalsely : Prop := freemapKnownRow.holds Tryd.pinned (OpenSpec.ofChange freemapKnownWrong)

/- THE SECOND FORM. 'bulk': how many values and letters a reading holds, each counted each time it is reached (what is shared counts as often as it is met; a slice's spare places count too). A statement '..UptoSaid' is the law's where the arguments, and the package variables that the reading takes, are together of bulk at most 1048576: NARROWER than '..Said'. Prove '..Said' where nothing that the law and all that it calls make is longer than what came in: it says more and counts as full. Else prove '..UptoSaid'. A law counts once. -/
mutual
def uptoBulk {H : Type} : DataW H → Nat
  | .lit (.string bytes) => bytes.length + 1
  | .lit _ => 1
  | .nil => 1
  | .ptr d => uptoBulk d + 1
  | .slice elems spare => uptoBulkAll elems + uptoBulkAll spare + 1
  | .agg parts => uptoBulkAll parts + 1
  | .iface _ d => uptoBulk d + 1
  | .map entries => uptoBulkEntries entries + 1
  | .held _ => 1
def uptoBulkAll {H : Type} : List (DataW H) → Nat
  | [] => 0
  | d :: r => uptoBulk d + uptoBulkAll r
def uptoBulkEntries {H : Type} : List (Lit × DataW H) → Nat
  | [] => 0
  | x :: r => uptoBulkEntry x + uptoBulkEntries r
def uptoBulkEntry {H : Type} : Lit × DataW H → Nat
  | (.string bytes, d) => bytes.length + uptoBulk d + 1
  | (_, d) => uptoBulk d + 1
 end
def uptoSmall : (H : Type) → List (DataW H) → Bool := fun _ ds => decide (uptoBulkAll ds ≤ 1048576)
def OpenSpec.upto (s : _root_.Go.ChangeSpec) : _root_.Go.OpenSpec := { _root_.Go.OpenSpec.ofChange s with cond := some uptoSmall }

/-- 'bedrocklaw22.FreemapLeast', WHERE WHAT IT READS IS OF BULK AT MOST 1048576: true; the input reads as it did. -/
def freemapLeastUptoRow : OpenClaim := { program := "ytdjjmmndfbffcaadoor", sum := "7a90d5ef74206c19ee9a7fb044f9bb52171a2252e0fcab0a992ebfd94fffbf4b", func := "bedrock/bedrocklaw22.FreemapLeast", spec := "freemapLeast", recurses := true, named := ["math/bits.deBruijn64tab"], apart := false, laid := [("math/bits.deBruijn64tab", laid_math_bits_deBruijn64tab)], narrowed := true }
def FreemapLeastUptoSaid : Prop := freemapLeastUptoRow.holds Tryd.pinned (OpenSpec.upto freemapLeastSpec)

/-- 'bedrocklaw22.FreemapAdds', WHERE WHAT IT READS IS OF BULK AT MOST 1048576: true; the input reads as it did. -/
def freemapAddsUptoRow : OpenClaim := { program := "ytdjjmmndfbffcaadoor", sum := "7a90d5ef74206c19ee9a7fb044f9bb52171a2252e0fcab0a992ebfd94fffbf4b", func := "bedrock/bedrocklaw22.FreemapAdds", spec := "freemapAdds", recurses := true, named := ["math/bits.deBruijn64tab"], apart := false, laid := [("math/bits.deBruijn64tab", laid_math_bits_deBruijn64tab)], narrowed := true }
def FreemapAddsUptoSaid : Prop := freemapAddsUptoRow.holds Tryd.pinned (OpenSpec.upto freemapAddsSpec)

/-- 'bedrocklaw22.FreemapPlays', WHERE WHAT IT READS IS OF BULK AT MOST 1048576: true; the input reads as it did. -/
def freemapPlaysUptoRow : OpenClaim := { program := "ytdjjmmndfbffcaadoor", sum := "7a90d5ef74206c19ee9a7fb044f9bb52171a2252e0fcab0a992ebfd94fffbf4b", func := "bedrock/bedrocklaw22.FreemapPlays", spec := "freemapPlays", recurses := true, named := ["math/bits.deBruijn64tab"], apart := false, laid := [("math/bits.deBruijn64tab", laid_math_bits_deBruijn64tab)], narrowed := true }
def FreemapPlaysUptoSaid : Prop := freemapPlaysUptoRow.holds Tryd.pinned (OpenSpec.upto freemapPlaysSpec)

/-- 'bedrocklaw22.FreemapLeads', WHERE WHAT IT READS IS OF BULK AT MOST 1048576: true; the input reads as it did. -/
def freemapLeadsUptoRow : OpenClaim := { program := "ytdjjmmndfbffcaadoor", sum := "7a90d5ef74206c19ee9a7fb044f9bb52171a2252e0fcab0a992ebfd94fffbf4b", func := "bedrock/bedrocklaw22.FreemapLeads", spec := "freemapLeads", recurses := true, named := ["math/bits.deBruijn64tab", "bedrock/crc.halves"], apart := false, laid := [("bedrock/crc.halves", laid_bedrock_crc_halves), ("math/bits.deBruijn64tab", laid_math_bits_deBruijn64tab)], narrowed := true }
def FreemapLeadsUptoSaid : Prop := freemapLeadsUptoRow.holds Tryd.pinned (OpenSpec.upto freemapLeadsSpec)

/-- 'bedrocklaw22.FreemapHomes', WHERE WHAT IT READS IS OF BULK AT MOST 1048576: true; the input reads as it did. -/
def freemapHomesUptoRow : OpenClaim := { program := "ytdjjmmndfbffcaadoor", sum := "7a90d5ef74206c19ee9a7fb044f9bb52171a2252e0fcab0a992ebfd94fffbf4b", func := "bedrock/bedrocklaw22.FreemapHomes", spec := "freemapHomes", recurses := true, named := ["bedrock/crc.halves", "math/bits.deBruijn64tab"], apart := false, laid := [("bedrock/crc.halves", laid_bedrock_crc_halves), ("math/bits.deBruijn64tab", laid_math_bits_deBruijn64tab)], narrowed := true }
def FreemapHomesUptoSaid : Prop := freemapHomesUptoRow.holds Tryd.pinned (OpenSpec.upto freemapHomesSpec)

/-- 'bedrocklaw22.FreemapBack', WHERE WHAT IT READS IS OF BULK AT MOST 1048576: true; the input reads as it did. -/
def freemapBackUptoRow : OpenClaim := { program := "ytdjjmmndfbffcaadoor", sum := "7a90d5ef74206c19ee9a7fb044f9bb52171a2252e0fcab0a992ebfd94fffbf4b", func := "bedrock/bedrocklaw22.FreemapBack", spec := "freemapBack", recurses := true, named := ["math/bits.deBruijn64tab", "bedrock/crc.halves"], apart := false, laid := [("bedrock/crc.halves", laid_bedrock_crc_halves), ("math/bits.deBruijn64tab", laid_math_bits_deBruijn64tab)], narrowed := true }
def FreemapBackUptoSaid : Prop := freemapBackUptoRow.holds Tryd.pinned (OpenSpec.upto freemapBackSpec)

/-- 'bedrocklaw22.FreemapTurned', WHERE WHAT IT READS IS OF BULK AT MOST 1048576: true; the input reads as it did. -/
def freemapTurnedUptoRow : OpenClaim := { program := "ytdjjmmndfbffcaadoor", sum := "7a90d5ef74206c19ee9a7fb044f9bb52171a2252e0fcab0a992ebfd94fffbf4b", func := "bedrock/bedrocklaw22.FreemapTurned", spec := "freemapTurned", recurses := true, named := ["math/bits.deBruijn64tab", "bedrock/crc.halves"], apart := false, laid := [("bedrock/crc.halves", laid_bedrock_crc_halves), ("math/bits.deBruijn64tab", laid_math_bits_deBruijn64tab)], narrowed := true }
def FreemapTurnedUptoSaid : Prop := freemapTurnedUptoRow.holds Tryd.pinned (OpenSpec.upto freemapTurnedSpec)

/-- 'bedrocklaw22.FreemapKnown', WHERE WHAT IT READS IS OF BULK AT MOST 1048576: true; the input reads as it did. -/
def freemapKnownUptoRow : OpenClaim := { program := "ytdjjmmndfbffcaadoor", sum := "7a90d5ef74206c19ee9a7fb044f9bb52171a2252e0fcab0a992ebfd94fffbf4b", func := "bedrock/bedrocklaw22.FreemapKnown", spec := "freemapKnown", recurses := true, named := ["math/bits.deBruijn64tab", "bedrock/crc.halves"], apart := false, laid := [("bedrock/crc.halves", laid_bedrock_crc_halves), ("math/bits.deBruijn64tab", laid_math_bits_deBruijn64tab)], narrowed := true }
def FreemapKnownUptoSaid : Prop := freemapKnownUptoRow.holds Tryd.pinned (OpenSpec.upto freemapKnownSpec)

end Rows
end Go.Proofs.YtdjjmmndfbffcaaDoor
