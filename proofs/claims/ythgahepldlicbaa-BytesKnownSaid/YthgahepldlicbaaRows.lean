/-
  No cell of these rows narrows 'for every input' (looked for: loops, veiled, ifaces, maps, wideKeys, modest, calm, conditions, laid).
  DERIVED. THE GIVEN ROWS OF THIS SEAT. 7 by the template 'for every input the law returns true; each argument reads behind the call as it read before'; 0 by the template 'total and deterministic' (their statements: YthgahepldlicbaaTotals.lean).
  GIVEN WITH THE SEED: the statements are not yours to turn. If you find one false, say at which input.
  Laid BY PROGRAM, IN A SANDBOX (cutbox-rows.mjs): the forced cells as the released guide's own fill.sh prints them over the translation a250b18336f7d3f2… (all of the seat's roots in one cut). By AI agents, Wed Nov 11 2026. No macro, syntax, notation, axiom, sorry.
-/
import Derived.Test.YthgahepldlicbaaChecked
import GoSem.Claim
import GoSem.ClaimJoined
import GoSem.ClaimMapViews
import Derived.JoinedTies
import Derived.KernelRfl
namespace Go.Proofs.Ythgahepldlicbaa
/- THE CELL 'sum', in the pinned program and in every row, IS THE sha256 OF THE DUMP (.gsa) THAT YthgahepldlicbaaProg.lean LOADS. Nothing in Lean hashes anything: it is a label: what it is worth is what the hold of that sum in a sandbox is worth. -/
noncomputable def Try.pinned : Pinned := { name := "ythgahepldlicbaa", sum := "a250b18336f7d3f213d5f3653085baee7447f7a23cc58e3ddd21f6b0e6ca4d1e", checked := Try.checked }
namespace Rows
def none {H : Type} : Left H := { results := [], args := [] }

/-- 'bedrocklaw04.BytesLay': WHATEVER THE INPUT: true; the input reads as it did. -/
def bytesLaySpec : ChangeSpec := { name := "bytesLay", fn := fun _ => fun
  | [d1, d2] => { results := [.lit (.bool true)], args := [d1, d2] }
  | _ => none }
def bytesLayRow : OpenClaim := { program := "ythgahepldlicbaa", sum := "a250b18336f7d3f213d5f3653085baee7447f7a23cc58e3ddd21f6b0e6ca4d1e", func := "bedrock/bedrocklaw04.BytesLay", spec := "bytesLay", apart := false }
def BytesLaySaid : Prop := bytesLayRow.holds Try.pinned (OpenSpec.ofChange bytesLaySpec)

/-- ITS FALSE NEIGHBOUR: 'it returns false'. Refute it at one input. -/
def bytesLayWrong : ChangeSpec := { name := "bytesLay", fn := fun _ => fun
  | [d1, d2] => { results := [.lit (.bool false)], args := [d1, d2] }
  | _ => none }
def BytesLayWrongFalsely : Prop := bytesLayRow.holds Try.pinned (OpenSpec.ofChange bytesLayWrong)

/-- 'bedrocklaw04.BytesOnce': WHATEVER THE INPUT: true; the input reads as it did. -/
def bytesOnceSpec : ChangeSpec := { name := "bytesOnce", fn := fun _ => fun
  | [d] => { results := [.lit (.bool true)], args := [d] }
  | _ => none }
def bytesOnceRow : OpenClaim := { program := "ythgahepldlicbaa", sum := "a250b18336f7d3f213d5f3653085baee7447f7a23cc58e3ddd21f6b0e6ca4d1e", func := "bedrock/bedrocklaw04.BytesOnce", spec := "bytesOnce", unfollowed := true, recurses := true, apart := false }
def BytesOnceSaid : Prop := bytesOnceRow.holds Try.pinned (OpenSpec.ofChange bytesOnceSpec)

/-- ITS FALSE NEIGHBOUR: 'it returns false'. Refute it at one input. -/
def bytesOnceWrong : ChangeSpec := { name := "bytesOnce", fn := fun _ => fun
  | [d] => { results := [.lit (.bool false)], args := [d] }
  | _ => none }
def BytesOnceWrongFalsely : Prop := bytesOnceRow.holds Try.pinned (OpenSpec.ofChange bytesOnceWrong)

/-- 'bedrocklaw04.BytesKnown': WHATEVER THE INPUT: true; the input reads as it did. -/
def bytesKnownSpec : ChangeSpec := { name := "bytesKnown", fn := fun _ => fun
  | [] => { results := [.lit (.bool true)], args := [] }
  | _ => none }
def bytesKnownRow : OpenClaim := { program := "ythgahepldlicbaa", sum := "a250b18336f7d3f213d5f3653085baee7447f7a23cc58e3ddd21f6b0e6ca4d1e", func := "bedrock/bedrocklaw04.BytesKnown", spec := "bytesKnown", apart := false }
def BytesKnownSaid : Prop := bytesKnownRow.holds Try.pinned (OpenSpec.ofChange bytesKnownSpec)

/-- ITS FALSE NEIGHBOUR: 'it returns false'. Refute it at one input. -/
def bytesKnownWrong : ChangeSpec := { name := "bytesKnown", fn := fun _ => fun
  | [] => { results := [.lit (.bool false)], args := [] }
  | _ => none }
def BytesKnownWrongFalsely : Prop := bytesKnownRow.holds Try.pinned (OpenSpec.ofChange bytesKnownWrong)

/-- 'bedrocklaw04.BytesCut': WHATEVER THE INPUT: true; the input reads as it did. -/
def bytesCutSpec : ChangeSpec := { name := "bytesCut", fn := fun _ => fun
  | [d1, d2] => { results := [.lit (.bool true)], args := [d1, d2] }
  | _ => none }
def bytesCutRow : OpenClaim := { program := "ythgahepldlicbaa", sum := "a250b18336f7d3f213d5f3653085baee7447f7a23cc58e3ddd21f6b0e6ca4d1e", func := "bedrock/bedrocklaw04.BytesCut", spec := "bytesCut", unfollowed := true, recurses := true, apart := false }
def BytesCutSaid : Prop := bytesCutRow.holds Try.pinned (OpenSpec.ofChange bytesCutSpec)

/-- ITS FALSE NEIGHBOUR: 'it returns false'. Refute it at one input. -/
def bytesCutWrong : ChangeSpec := { name := "bytesCut", fn := fun _ => fun
  | [d1, d2] => { results := [.lit (.bool false)], args := [d1, d2] }
  | _ => none }
def BytesCutWrongFalsely : Prop := bytesCutRow.holds Try.pinned (OpenSpec.ofChange bytesCutWrong)

/-- 'bedrocklaw04.BytesReads': WHATEVER THE INPUT: true; the input reads as it did. -/
def bytesReadsSpec : ChangeSpec := { name := "bytesReads", fn := fun _ => fun
  | [d1, d2] => { results := [.lit (.bool true)], args := [d1, d2] }
  | _ => none }
def bytesReadsRow : OpenClaim := { program := "ythgahepldlicbaa", sum := "a250b18336f7d3f213d5f3653085baee7447f7a23cc58e3ddd21f6b0e6ca4d1e", func := "bedrock/bedrocklaw04.BytesReads", spec := "bytesReads", unfollowed := true, recurses := true, apart := false }
def BytesReadsSaid : Prop := bytesReadsRow.holds Try.pinned (OpenSpec.ofChange bytesReadsSpec)

/-- ITS FALSE NEIGHBOUR: 'it returns false'. Refute it at one input. -/
def bytesReadsWrong : ChangeSpec := { name := "bytesReads", fn := fun _ => fun
  | [d1, d2] => { results := [.lit (.bool false)], args := [d1, d2] }
  | _ => none }
def BytesReadsWrongFalsely : Prop := bytesReadsRow.holds Try.pinned (OpenSpec.ofChange bytesReadsWrong)

/-- 'bedrocklaw04.BytesBroken': WHATEVER THE INPUT: true; the input reads as it did. -/
def bytesBrokenSpec : ChangeSpec := { name := "bytesBroken", fn := fun _ => fun
  | [d1, d2] => { results := [.lit (.bool true)], args := [d1, d2] }
  | _ => none }
def bytesBrokenRow : OpenClaim := { program := "ythgahepldlicbaa", sum := "a250b18336f7d3f213d5f3653085baee7447f7a23cc58e3ddd21f6b0e6ca4d1e", func := "bedrock/bedrocklaw04.BytesBroken", spec := "bytesBroken", unfollowed := true, recurses := true, apart := false }
def BytesBrokenSaid : Prop := bytesBrokenRow.holds Try.pinned (OpenSpec.ofChange bytesBrokenSpec)

/-- ITS FALSE NEIGHBOUR: 'it returns false'. Refute it at one input. -/
def bytesBrokenWrong : ChangeSpec := { name := "bytesBroken", fn := fun _ => fun
  | [d1, d2] => { results := [.lit (.bool false)], args := [d1, d2] }
  | _ => none }
def BytesBrokenWrongFalsely : Prop := bytesBrokenRow.holds Try.pinned (OpenSpec.ofChange bytesBrokenWrong)

/-- 'bedrocklaw04.BytesBack': WHATEVER THE INPUT: true; the input reads as it did. -/
def bytesBackSpec : ChangeSpec := { name := "bytesBack", fn := fun _ => fun
  | [d1, d2] => { results := [.lit (.bool true)], args := [d1, d2] }
  | _ => none }
def bytesBackRow : OpenClaim := { program := "ythgahepldlicbaa", sum := "a250b18336f7d3f213d5f3653085baee7447f7a23cc58e3ddd21f6b0e6ca4d1e", func := "bedrock/bedrocklaw04.BytesBack", spec := "bytesBack", unfollowed := true, recurses := true, apart := false }
def BytesBackSaid : Prop := bytesBackRow.holds Try.pinned (OpenSpec.ofChange bytesBackSpec)

/-- ITS FALSE NEIGHBOUR: 'it returns false'. Refute it at one input. -/
def bytesBackWrong : ChangeSpec := { name := "bytesBack", fn := fun _ => fun
  | [d1, d2] => { results := [.lit (.bool false)], args := [d1, d2] }
  | _ => none }
def BytesBackWrongFalsely : Prop := bytesBackRow.holds Try.pinned (OpenSpec.ofChange bytesBackWrong)

/- THE SECOND FORM. 'bulk': how many values and letters a reading holds, each counted each time it is reached (what is shared counts as often as it is met; a slice's spare places count too). A statement '..UptoSaid' is the law's where the arguments, and the package variables that the reading takes, are together of bulk at most 1048576: NARROWER than '..Said'. Prove '..Said' where nothing that the law and all that it calls make is longer than what came in: it says more and counts as full. Else prove '..UptoSaid'. A law counts once. -/
mutual
def uptoBulk {H : Type} : DataW H → Nat
  | .lit (.string bytes) => bytes.length + 1
  | .lit _ => 1
  | .nil => 1
  | .ptr d => uptoBulk d + 1
  | .slice elems spare => uptoBulkAll elems + uptoBulkAll spare + 1
  | .agg parts => uptoBulkAll parts + 1
  | .iface _ d => uptoBulk d + 1
  | .map entries => uptoBulkEntries entries + 1
  | .held _ => 1
def uptoBulkAll {H : Type} : List (DataW H) → Nat
  | [] => 0
  | d :: r => uptoBulk d + uptoBulkAll r
def uptoBulkEntries {H : Type} : List (Lit × DataW H) → Nat
  | [] => 0
  | x :: r => uptoBulkEntry x + uptoBulkEntries r
def uptoBulkEntry {H : Type} : Lit × DataW H → Nat
  | (.string bytes, d) => bytes.length + uptoBulk d + 1
  | (_, d) => uptoBulk d + 1
 end
def uptoSmall : (H : Type) → List (DataW H) → Bool := fun _ ds => decide (uptoBulkAll ds ≤ 1048576)
def OpenSpec.upto (s : _root_.Go.ChangeSpec) : _root_.Go.OpenSpec := { _root_.Go.OpenSpec.ofChange s with cond := some uptoSmall }

/-- 'bedrocklaw04.BytesLay', WHERE WHAT IT READS IS OF BULK AT MOST 1048576: true; the input reads as it did. -/
def bytesLayUptoRow : OpenClaim := { program := "ythgahepldlicbaa", sum := "a250b18336f7d3f213d5f3653085baee7447f7a23cc58e3ddd21f6b0e6ca4d1e", func := "bedrock/bedrocklaw04.BytesLay", spec := "bytesLay", apart := false, narrowed := true }
def BytesLayUptoSaid : Prop := bytesLayUptoRow.holds Try.pinned (OpenSpec.upto bytesLaySpec)

/-- 'bedrocklaw04.BytesOnce', WHERE WHAT IT READS IS OF BULK AT MOST 1048576: true; the input reads as it did. -/
def bytesOnceUptoRow : OpenClaim := { program := "ythgahepldlicbaa", sum := "a250b18336f7d3f213d5f3653085baee7447f7a23cc58e3ddd21f6b0e6ca4d1e", func := "bedrock/bedrocklaw04.BytesOnce", spec := "bytesOnce", unfollowed := true, recurses := true, apart := false, narrowed := true }
def BytesOnceUptoSaid : Prop := bytesOnceUptoRow.holds Try.pinned (OpenSpec.upto bytesOnceSpec)

/-- 'bedrocklaw04.BytesKnown', WHERE WHAT IT READS IS OF BULK AT MOST 1048576: true; the input reads as it did. -/
def bytesKnownUptoRow : OpenClaim := { program := "ythgahepldlicbaa", sum := "a250b18336f7d3f213d5f3653085baee7447f7a23cc58e3ddd21f6b0e6ca4d1e", func := "bedrock/bedrocklaw04.BytesKnown", spec := "bytesKnown", apart := false, narrowed := true }
def BytesKnownUptoSaid : Prop := bytesKnownUptoRow.holds Try.pinned (OpenSpec.upto bytesKnownSpec)

/-- 'bedrocklaw04.BytesCut', WHERE WHAT IT READS IS OF BULK AT MOST 1048576: true; the input reads as it did. -/
def bytesCutUptoRow : OpenClaim := { program := "ythgahepldlicbaa", sum := "a250b18336f7d3f213d5f3653085baee7447f7a23cc58e3ddd21f6b0e6ca4d1e", func := "bedrock/bedrocklaw04.BytesCut", spec := "bytesCut", unfollowed := true, recurses := true, apart := false, narrowed := true }
def BytesCutUptoSaid : Prop := bytesCutUptoRow.holds Try.pinned (OpenSpec.upto bytesCutSpec)

/-- 'bedrocklaw04.BytesReads', WHERE WHAT IT READS IS OF BULK AT MOST 1048576: true; the input reads as it did. -/
def bytesReadsUptoRow : OpenClaim := { program := "ythgahepldlicbaa", sum := "a250b18336f7d3f213d5f3653085baee7447f7a23cc58e3ddd21f6b0e6ca4d1e", func := "bedrock/bedrocklaw04.BytesReads", spec := "bytesReads", unfollowed := true, recurses := true, apart := false, narrowed := true }
def BytesReadsUptoSaid : Prop := bytesReadsUptoRow.holds Try.pinned (OpenSpec.upto bytesReadsSpec)

/-- 'bedrocklaw04.BytesBroken', WHERE WHAT IT READS IS OF BULK AT MOST 1048576: true; the input reads as it did. -/
def bytesBrokenUptoRow : OpenClaim := { program := "ythgahepldlicbaa", sum := "a250b18336f7d3f213d5f3653085baee7447f7a23cc58e3ddd21f6b0e6ca4d1e", func := "bedrock/bedrocklaw04.BytesBroken", spec := "bytesBroken", unfollowed := true, recurses := true, apart := false, narrowed := true }
def BytesBrokenUptoSaid : Prop := bytesBrokenUptoRow.holds Try.pinned (OpenSpec.upto bytesBrokenSpec)

/-- 'bedrocklaw04.BytesBack', WHERE WHAT IT READS IS OF BULK AT MOST 1048576: true; the input reads as it did. -/
def bytesBackUptoRow : OpenClaim := { program := "ythgahepldlicbaa", sum := "a250b18336f7d3f213d5f3653085baee7447f7a23cc58e3ddd21f6b0e6ca4d1e", func := "bedrock/bedrocklaw04.BytesBack", spec := "bytesBack", unfollowed := true, recurses := true, apart := false, narrowed := true }
def BytesBackUptoSaid : Prop := bytesBackUptoRow.holds Try.pinned (OpenSpec.upto bytesBackSpec)

end Rows
end Go.Proofs.Ythgahepldlicbaa
