/-
  No cell of these rows narrows 'for every input' (looked for: loops, veiled, ifaces, maps, wideKeys, modest, calm, conditions, laid).
  DERIVED. THE GIVEN ROWS OF THIS SEAT. 6 by the template 'for every input the law returns true; each argument reads behind the call as it read before'; 0 by the template 'total and deterministic' (their statements: YtfogcdmibakhbaaTotals.lean).
  GIVEN WITH THE SEED: the statements are not yours to turn. If you find one false, say at which input.
  Laid BY PROGRAM, IN A SANDBOX (cutbox-rows.mjs): the forced cells as the released guide's own fill.sh prints them over the translation d7d69715e7eff24f… (all of the seat's roots in one cut). By AI agents, Wed Nov 11 2026. No macro, syntax, notation, axiom, sorry.
-/
import Derived.Test.YtfogcdmibakhbaaChecked
import GoSem.Claim
import GoSem.ClaimJoined
import GoSem.ClaimMapViews
import Derived.JoinedTies
import Derived.KernelRfl
namespace Go.Proofs.Ytfogcdmibakhbaa
/- THE CELL 'sum', in the pinned program and in every row, IS THE sha256 OF THE DUMP (.gsa) THAT YtfogcdmibakhbaaProg.lean LOADS. Nothing in Lean hashes anything: it is a label: what it is worth is what the hold of that sum in a sandbox is worth. -/
noncomputable def Try.pinned : Pinned := { name := "ytfogcdmibakhbaa", sum := "d7d69715e7eff24f3eb5b96b96f74a564990712e4c2e96e901cfbf4aebc2eb51", checked := Try.checked }
namespace Rows
def none {H : Type} : Left H := { results := [], args := [] }

/-- 'bedrocklaw03.HashMix': WHATEVER THE INPUT: true; the input reads as it did. -/
def hashMixSpec : ChangeSpec := { name := "hashMix", fn := fun _ => fun
  | [d] => { results := [.lit (.bool true)], args := [d] }
  | _ => none }
def hashMixRow : OpenClaim := { program := "ytfogcdmibakhbaa", sum := "d7d69715e7eff24f3eb5b96b96f74a564990712e4c2e96e901cfbf4aebc2eb51", func := "bedrock/bedrocklaw03.HashMix", spec := "hashMix", apart := false }
def HashMixSaid : Prop := hashMixRow.holds Try.pinned (OpenSpec.ofChange hashMixSpec)

/-- ITS FALSE NEIGHBOUR: 'it returns false'. Refute it at one input. -/
def hashMixWrong : ChangeSpec := { name := "hashMix", fn := fun _ => fun
  | [d] => { results := [.lit (.bool false)], args := [d] }
  | _ => none }
def HashMixWrongFalsely : Prop := hashMixRow.holds Try.pinned (OpenSpec.ofChange hashMixWrong)

/-- 'bedrocklaw03.HashBelow': WHATEVER THE INPUT: true; the input reads as it did. -/
def hashBelowSpec : ChangeSpec := { name := "hashBelow", fn := fun _ => fun
  | [d1, d2] => { results := [.lit (.bool true)], args := [d1, d2] }
  | _ => none }
def hashBelowRow : OpenClaim := { program := "ytfogcdmibakhbaa", sum := "d7d69715e7eff24f3eb5b96b96f74a564990712e4c2e96e901cfbf4aebc2eb51", func := "bedrock/bedrocklaw03.HashBelow", spec := "hashBelow", apart := false }
def HashBelowSaid : Prop := hashBelowRow.holds Try.pinned (OpenSpec.ofChange hashBelowSpec)

/-- ITS FALSE NEIGHBOUR: 'it returns false'. Refute it at one input. -/
def hashBelowWrong : ChangeSpec := { name := "hashBelow", fn := fun _ => fun
  | [d1, d2] => { results := [.lit (.bool false)], args := [d1, d2] }
  | _ => none }
def HashBelowWrongFalsely : Prop := hashBelowRow.holds Try.pinned (OpenSpec.ofChange hashBelowWrong)

/-- 'bedrocklaw03.HashRange': WHATEVER THE INPUT: true; the input reads as it did. -/
def hashRangeSpec : ChangeSpec := { name := "hashRange", fn := fun _ => fun
  | [d1, d2, d3] => { results := [.lit (.bool true)], args := [d1, d2, d3] }
  | _ => none }
def hashRangeRow : OpenClaim := { program := "ytfogcdmibakhbaa", sum := "d7d69715e7eff24f3eb5b96b96f74a564990712e4c2e96e901cfbf4aebc2eb51", func := "bedrock/bedrocklaw03.HashRange", spec := "hashRange", apart := false }
def HashRangeSaid : Prop := hashRangeRow.holds Try.pinned (OpenSpec.ofChange hashRangeSpec)

/-- ITS FALSE NEIGHBOUR: 'it returns false'. Refute it at one input. -/
def hashRangeWrong : ChangeSpec := { name := "hashRange", fn := fun _ => fun
  | [d1, d2, d3] => { results := [.lit (.bool false)], args := [d1, d2, d3] }
  | _ => none }
def HashRangeWrongFalsely : Prop := hashRangeRow.holds Try.pinned (OpenSpec.ofChange hashRangeWrong)

/-- 'bedrocklaw03.HashPlace': WHATEVER THE INPUT: true; the input reads as it did. -/
def hashPlaceSpec : ChangeSpec := { name := "hashPlace", fn := fun _ => fun
  | [d1, d2, d3] => { results := [.lit (.bool true)], args := [d1, d2, d3] }
  | _ => none }
def hashPlaceRow : OpenClaim := { program := "ytfogcdmibakhbaa", sum := "d7d69715e7eff24f3eb5b96b96f74a564990712e4c2e96e901cfbf4aebc2eb51", func := "bedrock/bedrocklaw03.HashPlace", spec := "hashPlace", apart := false }
def HashPlaceSaid : Prop := hashPlaceRow.holds Try.pinned (OpenSpec.ofChange hashPlaceSpec)

/-- ITS FALSE NEIGHBOUR: 'it returns false'. Refute it at one input. -/
def hashPlaceWrong : ChangeSpec := { name := "hashPlace", fn := fun _ => fun
  | [d1, d2, d3] => { results := [.lit (.bool false)], args := [d1, d2, d3] }
  | _ => none }
def HashPlaceWrongFalsely : Prop := hashPlaceRow.holds Try.pinned (OpenSpec.ofChange hashPlaceWrong)

/-- 'bedrocklaw03.HashKnown': WHATEVER THE INPUT: true; the input reads as it did. -/
def hashKnownSpec : ChangeSpec := { name := "hashKnown", fn := fun _ => fun
  | [] => { results := [.lit (.bool true)], args := [] }
  | _ => none }
def hashKnownRow : OpenClaim := { program := "ytfogcdmibakhbaa", sum := "d7d69715e7eff24f3eb5b96b96f74a564990712e4c2e96e901cfbf4aebc2eb51", func := "bedrock/bedrocklaw03.HashKnown", spec := "hashKnown", apart := false }
def HashKnownSaid : Prop := hashKnownRow.holds Try.pinned (OpenSpec.ofChange hashKnownSpec)

/-- ITS FALSE NEIGHBOUR: 'it returns false'. Refute it at one input. -/
def hashKnownWrong : ChangeSpec := { name := "hashKnown", fn := fun _ => fun
  | [] => { results := [.lit (.bool false)], args := [] }
  | _ => none }
def HashKnownWrongFalsely : Prop := hashKnownRow.holds Try.pinned (OpenSpec.ofChange hashKnownWrong)

/-- 'bedrocklaw03.HashApart': WHATEVER THE INPUT: true; the input reads as it did. -/
def hashApartSpec : ChangeSpec := { name := "hashApart", fn := fun _ => fun
  | [d1, d2, d3, d4, d5] => { results := [.lit (.bool true)], args := [d1, d2, d3, d4, d5] }
  | _ => none }
def hashApartRow : OpenClaim := { program := "ytfogcdmibakhbaa", sum := "d7d69715e7eff24f3eb5b96b96f74a564990712e4c2e96e901cfbf4aebc2eb51", func := "bedrock/bedrocklaw03.HashApart", spec := "hashApart", apart := false }
def HashApartSaid : Prop := hashApartRow.holds Try.pinned (OpenSpec.ofChange hashApartSpec)

/-- ITS FALSE NEIGHBOUR: 'it returns false'. Refute it at one input. -/
def hashApartWrong : ChangeSpec := { name := "hashApart", fn := fun _ => fun
  | [d1, d2, d3, d4, d5] => { results := [.lit (.bool false)], args := [d1, d2, d3, d4, d5] }
  | _ => none }
def HashApartWrongFalsely : Prop := hashApartRow.holds Try.pinned (OpenSpec.ofChange hashApartWrong)

/- THE SECOND FORM. 'bulk': how many values and letters a reading holds, each counted each time it is reached (what is shared counts as often as it is met; a slice's spare places count too). A statement '..UptoSaid' is the law's where the arguments, and the package variables that the reading takes, are together of bulk at most 1048576: NARROWER than '..Said'. Prove '..Said' where nothing that the law and all that it calls make is longer than what came in: it says more and counts as full. Else prove '..UptoSaid'. A law counts once. -/
mutual
def uptoBulk {H : Type} : DataW H → Nat
  | .lit (.string bytes) => bytes.length + 1
  | .lit _ => 1
  | .nil => 1
  | .ptr d => uptoBulk d + 1
  | .slice elems spare => uptoBulkAll elems + uptoBulkAll spare + 1
  | .agg parts => uptoBulkAll parts + 1
  | .iface _ d => uptoBulk d + 1
  | .map entries => uptoBulkEntries entries + 1
  | .held _ => 1
def uptoBulkAll {H : Type} : List (DataW H) → Nat
  | [] => 0
  | d :: r => uptoBulk d + uptoBulkAll r
def uptoBulkEntries {H : Type} : List (Lit × DataW H) → Nat
  | [] => 0
  | x :: r => uptoBulkEntry x + uptoBulkEntries r
def uptoBulkEntry {H : Type} : Lit × DataW H → Nat
  | (.string bytes, d) => bytes.length + uptoBulk d + 1
  | (_, d) => uptoBulk d + 1
 end
def uptoSmall : (H : Type) → List (DataW H) → Bool := fun _ ds => decide (uptoBulkAll ds ≤ 1048576)
def OpenSpec.upto (s : _root_.Go.ChangeSpec) : _root_.Go.OpenSpec := { _root_.Go.OpenSpec.ofChange s with cond := some uptoSmall }

/-- 'bedrocklaw03.HashMix', WHERE WHAT IT READS IS OF BULK AT MOST 1048576: true; the input reads as it did. -/
def hashMixUptoRow : OpenClaim := { program := "ytfogcdmibakhbaa", sum := "d7d69715e7eff24f3eb5b96b96f74a564990712e4c2e96e901cfbf4aebc2eb51", func := "bedrock/bedrocklaw03.HashMix", spec := "hashMix", apart := false, narrowed := true }
def HashMixUptoSaid : Prop := hashMixUptoRow.holds Try.pinned (OpenSpec.upto hashMixSpec)

/-- 'bedrocklaw03.HashBelow', WHERE WHAT IT READS IS OF BULK AT MOST 1048576: true; the input reads as it did. -/
def hashBelowUptoRow : OpenClaim := { program := "ytfogcdmibakhbaa", sum := "d7d69715e7eff24f3eb5b96b96f74a564990712e4c2e96e901cfbf4aebc2eb51", func := "bedrock/bedrocklaw03.HashBelow", spec := "hashBelow", apart := false, narrowed := true }
def HashBelowUptoSaid : Prop := hashBelowUptoRow.holds Try.pinned (OpenSpec.upto hashBelowSpec)

/-- 'bedrocklaw03.HashRange', WHERE WHAT IT READS IS OF BULK AT MOST 1048576: true; the input reads as it did. -/
def hashRangeUptoRow : OpenClaim := { program := "ytfogcdmibakhbaa", sum := "d7d69715e7eff24f3eb5b96b96f74a564990712e4c2e96e901cfbf4aebc2eb51", func := "bedrock/bedrocklaw03.HashRange", spec := "hashRange", apart := false, narrowed := true }
def HashRangeUptoSaid : Prop := hashRangeUptoRow.holds Try.pinned (OpenSpec.upto hashRangeSpec)

/-- 'bedrocklaw03.HashPlace', WHERE WHAT IT READS IS OF BULK AT MOST 1048576: true; the input reads as it did. -/
def hashPlaceUptoRow : OpenClaim := { program := "ytfogcdmibakhbaa", sum := "d7d69715e7eff24f3eb5b96b96f74a564990712e4c2e96e901cfbf4aebc2eb51", func := "bedrock/bedrocklaw03.HashPlace", spec := "hashPlace", apart := false, narrowed := true }
def HashPlaceUptoSaid : Prop := hashPlaceUptoRow.holds Try.pinned (OpenSpec.upto hashPlaceSpec)

/-- 'bedrocklaw03.HashKnown', WHERE WHAT IT READS IS OF BULK AT MOST 1048576: true; the input reads as it did. -/
def hashKnownUptoRow : OpenClaim := { program := "ytfogcdmibakhbaa", sum := "d7d69715e7eff24f3eb5b96b96f74a564990712e4c2e96e901cfbf4aebc2eb51", func := "bedrock/bedrocklaw03.HashKnown", spec := "hashKnown", apart := false, narrowed := true }
def HashKnownUptoSaid : Prop := hashKnownUptoRow.holds Try.pinned (OpenSpec.upto hashKnownSpec)

/-- 'bedrocklaw03.HashApart', WHERE WHAT IT READS IS OF BULK AT MOST 1048576: true; the input reads as it did. -/
def hashApartUptoRow : OpenClaim := { program := "ytfogcdmibakhbaa", sum := "d7d69715e7eff24f3eb5b96b96f74a564990712e4c2e96e901cfbf4aebc2eb51", func := "bedrock/bedrocklaw03.HashApart", spec := "hashApart", apart := false, narrowed := true }
def HashApartUptoSaid : Prop := hashApartUptoRow.holds Try.pinned (OpenSpec.upto hashApartSpec)

end Rows
end Go.Proofs.Ytfogcdmibakhbaa
