/-
  No cell of these rows narrows 'for every input' (looked for: loops, veiled, ifaces, maps, wideKeys, modest, calm, conditions, laid).
  DERIVED. THE GIVEN ROWS OF THIS SEAT. 4 by the template 'for every input the law returns true; each argument reads behind the call as it read before'; 0 by the template 'total and deterministic' (their statements: YtijdjpcmndjbcaaTotals.lean).
  GIVEN WITH THE SEED: the statements are not yours to turn. If you find one false, say at which input.
  Laid BY PROGRAM, IN A SANDBOX (cutbox-rows.mjs): the forced cells as the released guide's own fill.sh prints them over the translation e0b173ba7f1eb628… (all of the seat's roots in one cut). By AI agents, Wed Nov 11 2026. No macro, syntax, notation, axiom, sorry.
-/
import Derived.Test.YtijdjpcmndjbcaaChecked
import GoSem.Claim
import GoSem.ClaimJoined
import GoSem.ClaimMapViews
import Derived.JoinedTies
import Derived.KernelRfl
namespace Go.Proofs.Ytijdjpcmndjbcaa
/- THE CELL 'sum', in the pinned program and in every row, IS THE sha256 OF THE DUMP (.gsa) THAT YtijdjpcmndjbcaaProg.lean LOADS. Nothing in Lean hashes anything: it is a label: what it is worth is what the hold of that sum in a sandbox is worth. -/
noncomputable def Try.pinned : Pinned := { name := "ytijdjpcmndjbcaa", sum := "e0b173ba7f1eb6280770813586169f00a06f6ea88e59485f4a11ca02ed892a36", checked := Try.checked }
namespace Rows
def none {H : Type} : Left H := { results := [], args := [] }

/-- 'bedrocklaw05.RunsGet': WHATEVER THE INPUT: true; the input reads as it did. -/
def runsGetSpec : ChangeSpec := { name := "runsGet", fn := fun _ => fun
  | [d1, d2] => { results := [.lit (.bool true)], args := [d1, d2] }
  | _ => none }
def runsGetRow : OpenClaim := { program := "ytijdjpcmndjbcaa", sum := "e0b173ba7f1eb6280770813586169f00a06f6ea88e59485f4a11ca02ed892a36", func := "bedrock/bedrocklaw05.RunsGet", spec := "runsGet", inPlace := ["internal/bytealg.MakeNoZero"], unfollowed := true, recurses := true, apart := false }
def RunsGetSaid : Prop := runsGetRow.holds Try.pinned (OpenSpec.ofChange runsGetSpec)

/-- ITS FALSE NEIGHBOUR: 'it returns false'. Refute it at one input. -/
def runsGetWrong : ChangeSpec := { name := "runsGet", fn := fun _ => fun
  | [d1, d2] => { results := [.lit (.bool false)], args := [d1, d2] }
  | _ => none }
def RunsGetWrongFalsely : Prop := runsGetRow.holds Try.pinned (OpenSpec.ofChange runsGetWrong)

/-- 'bedrocklaw05.RunsKnown': WHATEVER THE INPUT: true; the input reads as it did. -/
def runsKnownSpec : ChangeSpec := { name := "runsKnown", fn := fun _ => fun
  | [] => { results := [.lit (.bool true)], args := [] }
  | _ => none }
def runsKnownRow : OpenClaim := { program := "ytijdjpcmndjbcaa", sum := "e0b173ba7f1eb6280770813586169f00a06f6ea88e59485f4a11ca02ed892a36", func := "bedrock/bedrocklaw05.RunsKnown", spec := "runsKnown", inPlace := ["internal/bytealg.MakeNoZero"], unfollowed := true, recurses := true, apart := false }
def RunsKnownSaid : Prop := runsKnownRow.holds Try.pinned (OpenSpec.ofChange runsKnownSpec)

/-- ITS FALSE NEIGHBOUR: 'it returns false'. Refute it at one input. -/
def runsKnownWrong : ChangeSpec := { name := "runsKnown", fn := fun _ => fun
  | [] => { results := [.lit (.bool false)], args := [] }
  | _ => none }
def RunsKnownWrongFalsely : Prop := runsKnownRow.holds Try.pinned (OpenSpec.ofChange runsKnownWrong)

/-- 'bedrocklaw05.RunsBack': WHATEVER THE INPUT: true; the input reads as it did. -/
def runsBackSpec : ChangeSpec := { name := "runsBack", fn := fun _ => fun
  | [d1, d2, d3] => { results := [.lit (.bool true)], args := [d1, d2, d3] }
  | _ => none }
def runsBackRow : OpenClaim := { program := "ytijdjpcmndjbcaa", sum := "e0b173ba7f1eb6280770813586169f00a06f6ea88e59485f4a11ca02ed892a36", func := "bedrock/bedrocklaw05.RunsBack", spec := "runsBack", inPlace := ["internal/bytealg.MakeNoZero"], unfollowed := true, recurses := true, apart := false }
def RunsBackSaid : Prop := runsBackRow.holds Try.pinned (OpenSpec.ofChange runsBackSpec)

/-- ITS FALSE NEIGHBOUR: 'it returns false'. Refute it at one input. -/
def runsBackWrong : ChangeSpec := { name := "runsBack", fn := fun _ => fun
  | [d1, d2, d3] => { results := [.lit (.bool false)], args := [d1, d2, d3] }
  | _ => none }
def RunsBackWrongFalsely : Prop := runsBackRow.holds Try.pinned (OpenSpec.ofChange runsBackWrong)

/-- 'bedrocklaw05.RunsOne': WHATEVER THE INPUT: true; the input reads as it did. -/
def runsOneSpec : ChangeSpec := { name := "runsOne", fn := fun _ => fun
  | [d1, d2] => { results := [.lit (.bool true)], args := [d1, d2] }
  | _ => none }
def runsOneRow : OpenClaim := { program := "ytijdjpcmndjbcaa", sum := "e0b173ba7f1eb6280770813586169f00a06f6ea88e59485f4a11ca02ed892a36", func := "bedrock/bedrocklaw05.RunsOne", spec := "runsOne", inPlace := ["internal/bytealg.MakeNoZero"], unfollowed := true, recurses := true, apart := false }
def RunsOneSaid : Prop := runsOneRow.holds Try.pinned (OpenSpec.ofChange runsOneSpec)

/-- ITS FALSE NEIGHBOUR: 'it returns false'. Refute it at one input. -/
def runsOneWrong : ChangeSpec := { name := "runsOne", fn := fun _ => fun
  | [d1, d2] => { results := [.lit (.bool false)], args := [d1, d2] }
  | _ => none }
def RunsOneWrongFalsely : Prop := runsOneRow.holds Try.pinned (OpenSpec.ofChange runsOneWrong)

/- THE SECOND FORM. 'bulk': how many values and letters a reading holds, each counted each time it is reached (what is shared counts as often as it is met; a slice's spare places count too). A statement '..UptoSaid' is the law's where the arguments, and the package variables that the reading takes, are together of bulk at most 1048576: NARROWER than '..Said'. Prove '..Said' where nothing that the law and all that it calls make is longer than what came in: it says more and counts as full. Else prove '..UptoSaid'. A law counts once. -/
mutual
def uptoBulk {H : Type} : DataW H → Nat
  | .lit (.string bytes) => bytes.length + 1
  | .lit _ => 1
  | .nil => 1
  | .ptr d => uptoBulk d + 1
  | .slice elems spare => uptoBulkAll elems + uptoBulkAll spare + 1
  | .agg parts => uptoBulkAll parts + 1
  | .iface _ d => uptoBulk d + 1
  | .map entries => uptoBulkEntries entries + 1
  | .held _ => 1
def uptoBulkAll {H : Type} : List (DataW H) → Nat
  | [] => 0
  | d :: r => uptoBulk d + uptoBulkAll r
def uptoBulkEntries {H : Type} : List (Lit × DataW H) → Nat
  | [] => 0
  | x :: r => uptoBulkEntry x + uptoBulkEntries r
def uptoBulkEntry {H : Type} : Lit × DataW H → Nat
  | (.string bytes, d) => bytes.length + uptoBulk d + 1
  | (_, d) => uptoBulk d + 1
 end
def uptoSmall : (H : Type) → List (DataW H) → Bool := fun _ ds => decide (uptoBulkAll ds ≤ 1048576)
def OpenSpec.upto (s : _root_.Go.ChangeSpec) : _root_.Go.OpenSpec := { _root_.Go.OpenSpec.ofChange s with cond := some uptoSmall }

/-- 'bedrocklaw05.RunsGet', WHERE WHAT IT READS IS OF BULK AT MOST 1048576: true; the input reads as it did. -/
def runsGetUptoRow : OpenClaim := { program := "ytijdjpcmndjbcaa", sum := "e0b173ba7f1eb6280770813586169f00a06f6ea88e59485f4a11ca02ed892a36", func := "bedrock/bedrocklaw05.RunsGet", spec := "runsGet", inPlace := ["internal/bytealg.MakeNoZero"], unfollowed := true, recurses := true, apart := false, narrowed := true }
def RunsGetUptoSaid : Prop := runsGetUptoRow.holds Try.pinned (OpenSpec.upto runsGetSpec)

/-- 'bedrocklaw05.RunsKnown', WHERE WHAT IT READS IS OF BULK AT MOST 1048576: true; the input reads as it did. -/
def runsKnownUptoRow : OpenClaim := { program := "ytijdjpcmndjbcaa", sum := "e0b173ba7f1eb6280770813586169f00a06f6ea88e59485f4a11ca02ed892a36", func := "bedrock/bedrocklaw05.RunsKnown", spec := "runsKnown", inPlace := ["internal/bytealg.MakeNoZero"], unfollowed := true, recurses := true, apart := false, narrowed := true }
def RunsKnownUptoSaid : Prop := runsKnownUptoRow.holds Try.pinned (OpenSpec.upto runsKnownSpec)

/-- 'bedrocklaw05.RunsBack', WHERE WHAT IT READS IS OF BULK AT MOST 1048576: true; the input reads as it did. -/
def runsBackUptoRow : OpenClaim := { program := "ytijdjpcmndjbcaa", sum := "e0b173ba7f1eb6280770813586169f00a06f6ea88e59485f4a11ca02ed892a36", func := "bedrock/bedrocklaw05.RunsBack", spec := "runsBack", inPlace := ["internal/bytealg.MakeNoZero"], unfollowed := true, recurses := true, apart := false, narrowed := true }
def RunsBackUptoSaid : Prop := runsBackUptoRow.holds Try.pinned (OpenSpec.upto runsBackSpec)

/-- 'bedrocklaw05.RunsOne', WHERE WHAT IT READS IS OF BULK AT MOST 1048576: true; the input reads as it did. -/
def runsOneUptoRow : OpenClaim := { program := "ytijdjpcmndjbcaa", sum := "e0b173ba7f1eb6280770813586169f00a06f6ea88e59485f4a11ca02ed892a36", func := "bedrock/bedrocklaw05.RunsOne", spec := "runsOne", inPlace := ["internal/bytealg.MakeNoZero"], unfollowed := true, recurses := true, apart := false, narrowed := true }
def RunsOneUptoSaid : Prop := runsOneUptoRow.holds Try.pinned (OpenSpec.upto runsOneSpec)

end Rows
end Go.Proofs.Ytijdjpcmndjbcaa
