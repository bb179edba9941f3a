/-
  NARROWER THAN 'FOR EVERY INPUT', by the rows' own cells (each row's printed sentence says how): SectorLast: laid · SectorRefused: laid · SectorCuts: laid · SectorApart: laid · SectorPlays: laid · SectorKnown: laid.
  DERIVED. THE GIVEN ROWS OF THIS SEAT. 6 by the template 'for every input the law returns true; each argument reads behind the call as it read before'; 0 by the template 'total and deterministic' (their statements: YteooldbdilkmeaaDoorTotals.lean).
  GIVEN WITH THE SEED: the statements are not yours to turn. If you find one false, say at which input.
  Laid BY PROGRAM, IN A SANDBOX (cutbox-rows.mjs): the forced cells as the released guide's own fill.sh prints them over the translation 4da3f8504e766de6… (all of the seat's roots in one cut). By AI agents, Wed Nov 11 2026. No macro, syntax, notation, axiom, sorry.
-/
import Derived.Test.YteooldbdilkmeaaDoorChecked
import GoSem.PinnedTables
import GoSem.Claim
import GoSem.ClaimJoined
import GoSem.ClaimMapViews
import Derived.JoinedTies
import Derived.KernelRfl
namespace Go.Proofs.YteooldbdilkmeaaDoor
/- THE CELL 'sum', in the pinned program and in every row, IS THE sha256 OF THE DUMP (.gsa) THAT YteooldbdilkmeaaDoorProg.lean LOADS. Nothing in Lean hashes anything: it is a label: what it is worth is what the hold of that sum in a sandbox is worth. -/
noncomputable def Tryd.pinned : Pinned := { name := "yteooldbdilkmeaadoor", sum := "4da3f8504e766de6c376a93a53ac6a93a4b3a8de9a687d2e068d8de6b20d8549", checked := Tryd.checked }
namespace Rows
def none {H : Type} : Left H := { results := [], args := [] }

/- WHAT THE LISTED PACKAGE-LEVEL VARIABLES READ AS WHEN THE CALL BEGINS. Each datum BY PROGRAM (the guide's laid-datum.mjs) off the statement by which the dump's own 'gosem.cut.vars' lays the variable. In a bare row this is a premise. The card (YteooldbdilkmeaaDoorCards.lean) ties it to the program's text. -/
def laid_unicode_utf8_acceptRanges {H : Type} : DataW H := .agg [.agg [.lit (.int .u8 128), .lit (.int .u8 191)], .agg [.lit (.int .u8 160), .lit (.int .u8 191)], .agg [.lit (.int .u8 128), .lit (.int .u8 159)], .agg [.lit (.int .u8 144), .lit (.int .u8 191)], .agg [.lit (.int .u8 128), .lit (.int .u8 143)], .agg [.lit (.int .u8 0), .lit (.int .u8 0)], .agg [.lit (.int .u8 0), .lit (.int .u8 0)], .agg [.lit (.int .u8 0), .lit (.int .u8 0)], .agg [.lit (.int .u8 0), .lit (.int .u8 0)], .agg [.lit (.int .u8 0), .lit (.int .u8 0)], .agg [.lit (.int .u8 0), .lit (.int .u8 0)], .agg [.lit (.int .u8 0), .lit (.int .u8 0)], .agg [.lit (.int .u8 0), .lit (.int .u8 0)], .agg [.lit (.int .u8 0), .lit (.int .u8 0)], .agg [.lit (.int .u8 0), .lit (.int .u8 0)], .agg [.lit (.int .u8 0), .lit (.int .u8 0)]]
/-- One of Go's own tables, pinned by name: the form's constant. -/
def laid_unicode_utf8_first : DataW Unit := Go.Pinned.utf8First

/-- 'bedrocklaw20.SectorLast': WHATEVER THE INPUT: true; the input reads as it did. -/
def sectorLastSpec : ChangeSpec := { name := "sectorLast", fn := fun _ => fun
  | [d1, d2] => { results := [.lit (.bool true)], args := [d1, d2] }
  | _ => none }
def sectorLastRow : OpenClaim := { program := "yteooldbdilkmeaadoor", sum := "4da3f8504e766de6c376a93a53ac6a93a4b3a8de9a687d2e068d8de6b20d8549", func := "bedrock/bedrocklaw20.SectorLast", spec := "sectorLast", inPlace := ["internal/bytealg.IndexByteString", "internal/bytealg.IndexString", "internal/abi.NoEscape", "internal/bytealg.MakeNoZero", "maps.clone"], named := ["unicode/utf8.first", "unicode/utf8.acceptRanges", "internal/bytealg.MaxLen"], apart := false, laid := [("unicode/utf8.acceptRanges", laid_unicode_utf8_acceptRanges), ("unicode/utf8.first", laid_unicode_utf8_first)] }
def SectorLastSaid : Prop := sectorLastRow.holds Tryd.pinned (OpenSpec.ofChange sectorLastSpec)

/-- ITS FALSE NEIGHBOUR: 'it returns false'. Refute it at one input. -/
def sectorLastWrong : ChangeSpec := { name := "sectorLast", fn := fun _ => fun
  | [d1, d2] => { results := [.lit (.bool false)], args := [d1, d2] }
  | _ => none }
def SectorLastWrongFalsely : Prop := sectorLastRow.holds Tryd.pinned (OpenSpec.ofChange sectorLastWrong)

/-- 'bedrocklaw20.SectorRefused': WHATEVER THE INPUT: true; the input reads as it did. -/
def sectorRefusedSpec : ChangeSpec := { name := "sectorRefused", fn := fun _ => fun
  | [d1, d2] => { results := [.lit (.bool true)], args := [d1, d2] }
  | _ => none }
def sectorRefusedRow : OpenClaim := { program := "yteooldbdilkmeaadoor", sum := "4da3f8504e766de6c376a93a53ac6a93a4b3a8de9a687d2e068d8de6b20d8549", func := "bedrock/bedrocklaw20.SectorRefused", spec := "sectorRefused", inPlace := ["internal/bytealg.IndexByteString", "internal/bytealg.IndexString", "internal/abi.NoEscape", "internal/bytealg.MakeNoZero", "maps.clone"], unfollowed := true, recurses := true, named := ["unicode/utf8.first", "unicode/utf8.acceptRanges", "internal/bytealg.MaxLen"], apart := false, laid := [("unicode/utf8.acceptRanges", laid_unicode_utf8_acceptRanges), ("unicode/utf8.first", laid_unicode_utf8_first)] }
def SectorRefusedSaid : Prop := sectorRefusedRow.holds Tryd.pinned (OpenSpec.ofChange sectorRefusedSpec)

/-- ITS FALSE NEIGHBOUR: 'it returns false'. Refute it at one input. -/
def sectorRefusedWrong : ChangeSpec := { name := "sectorRefused", fn := fun _ => fun
  | [d1, d2] => { results := [.lit (.bool false)], args := [d1, d2] }
  | _ => none }
def SectorRefusedWrongFalsely : Prop := sectorRefusedRow.holds Tryd.pinned (OpenSpec.ofChange sectorRefusedWrong)

/-- 'bedrocklaw20.SectorCuts': WHATEVER THE INPUT: true; the input reads as it did. -/
def sectorCutsSpec : ChangeSpec := { name := "sectorCuts", fn := fun _ => fun
  | [d1, d2, d3] => { results := [.lit (.bool true)], args := [d1, d2, d3] }
  | _ => none }
def sectorCutsRow : OpenClaim := { program := "yteooldbdilkmeaadoor", sum := "4da3f8504e766de6c376a93a53ac6a93a4b3a8de9a687d2e068d8de6b20d8549", func := "bedrock/bedrocklaw20.SectorCuts", spec := "sectorCuts", inPlace := ["internal/bytealg.IndexByteString", "internal/bytealg.IndexString", "internal/abi.NoEscape", "internal/bytealg.MakeNoZero", "maps.clone"], unfollowed := true, recurses := true, named := ["unicode/utf8.first", "unicode/utf8.acceptRanges", "internal/bytealg.MaxLen"], apart := false, laid := [("unicode/utf8.acceptRanges", laid_unicode_utf8_acceptRanges), ("unicode/utf8.first", laid_unicode_utf8_first)] }
def SectorCutsSaid : Prop := sectorCutsRow.holds Tryd.pinned (OpenSpec.ofChange sectorCutsSpec)

/-- ITS FALSE NEIGHBOUR: 'it returns false'. Refute it at one input. -/
def sectorCutsWrong : ChangeSpec := { name := "sectorCuts", fn := fun _ => fun
  | [d1, d2, d3] => { results := [.lit (.bool false)], args := [d1, d2, d3] }
  | _ => none }
def SectorCutsWrongFalsely : Prop := sectorCutsRow.holds Tryd.pinned (OpenSpec.ofChange sectorCutsWrong)

/-- 'bedrocklaw20.SectorApart': WHATEVER THE INPUT: true; the input reads as it did. -/
def sectorApartSpec : ChangeSpec := { name := "sectorApart", fn := fun _ => fun
  | [d1, d2] => { results := [.lit (.bool true)], args := [d1, d2] }
  | _ => none }
def sectorApartRow : OpenClaim := { program := "yteooldbdilkmeaadoor", sum := "4da3f8504e766de6c376a93a53ac6a93a4b3a8de9a687d2e068d8de6b20d8549", func := "bedrock/bedrocklaw20.SectorApart", spec := "sectorApart", inPlace := ["internal/bytealg.IndexByteString", "internal/bytealg.IndexString", "maps.clone", "internal/abi.NoEscape", "internal/bytealg.MakeNoZero"], unfollowed := true, recurses := true, named := ["unicode/utf8.first", "unicode/utf8.acceptRanges", "internal/bytealg.MaxLen"], apart := false, laid := [("unicode/utf8.acceptRanges", laid_unicode_utf8_acceptRanges), ("unicode/utf8.first", laid_unicode_utf8_first)] }
def SectorApartSaid : Prop := sectorApartRow.holds Tryd.pinned (OpenSpec.ofChange sectorApartSpec)

/-- ITS FALSE NEIGHBOUR: 'it returns false'. Refute it at one input. -/
def sectorApartWrong : ChangeSpec := { name := "sectorApart", fn := fun _ => fun
  | [d1, d2] => { results := [.lit (.bool false)], args := [d1, d2] }
  | _ => none }
def SectorApartWrongFalsely : Prop := sectorApartRow.holds Tryd.pinned (OpenSpec.ofChange sectorApartWrong)

/-- 'bedrocklaw20.SectorPlays': WHATEVER THE INPUT: true; the input reads as it did. -/
def sectorPlaysSpec : ChangeSpec := { name := "sectorPlays", fn := fun _ => fun
  | [d1, d2] => { results := [.lit (.bool true)], args := [d1, d2] }
  | _ => none }
def sectorPlaysRow : OpenClaim := { program := "yteooldbdilkmeaadoor", sum := "4da3f8504e766de6c376a93a53ac6a93a4b3a8de9a687d2e068d8de6b20d8549", func := "bedrock/bedrocklaw20.SectorPlays", spec := "sectorPlays", inPlace := ["internal/bytealg.IndexByteString", "internal/bytealg.IndexString", "maps.clone", "internal/abi.NoEscape", "internal/bytealg.MakeNoZero"], unfollowed := true, recurses := true, named := ["unicode/utf8.first", "unicode/utf8.acceptRanges", "internal/bytealg.MaxLen"], apart := false, laid := [("unicode/utf8.acceptRanges", laid_unicode_utf8_acceptRanges), ("unicode/utf8.first", laid_unicode_utf8_first)] }
def SectorPlaysSaid : Prop := sectorPlaysRow.holds Tryd.pinned (OpenSpec.ofChange sectorPlaysSpec)

/-- ITS FALSE NEIGHBOUR: 'it returns false'. Refute it at one input. -/
def sectorPlaysWrong : ChangeSpec := { name := "sectorPlays", fn := fun _ => fun
  | [d1, d2] => { results := [.lit (.bool false)], args := [d1, d2] }
  | _ => none }
def SectorPlaysWrongFalsely : Prop := sectorPlaysRow.holds Tryd.pinned (OpenSpec.ofChange sectorPlaysWrong)

/-- 'bedrocklaw20.SectorKnown': WHATEVER THE INPUT: true; the input reads as it did. -/
def sectorKnownSpec : ChangeSpec := { name := "sectorKnown", fn := fun _ => fun
  | [] => { results := [.lit (.bool true)], args := [] }
  | _ => none }
def sectorKnownRow : OpenClaim := { program := "yteooldbdilkmeaadoor", sum := "4da3f8504e766de6c376a93a53ac6a93a4b3a8de9a687d2e068d8de6b20d8549", func := "bedrock/bedrocklaw20.SectorKnown", spec := "sectorKnown", inPlace := ["internal/bytealg.IndexByteString", "internal/bytealg.IndexString", "internal/abi.NoEscape", "internal/bytealg.MakeNoZero", "maps.clone"], unfollowed := true, recurses := true, named := ["unicode/utf8.first", "unicode/utf8.acceptRanges", "internal/bytealg.MaxLen"], apart := false, laid := [("unicode/utf8.acceptRanges", laid_unicode_utf8_acceptRanges), ("unicode/utf8.first", laid_unicode_utf8_first)] }
def SectorKnownSaid : Prop := sectorKnownRow.holds Tryd.pinned (OpenSpec.ofChange sectorKnownSpec)

/-- ITS FALSE NEIGHBOUR: 'it returns false'. Refute it at one input. -/
def sectorKnownWrong : ChangeSpec := { name := "sectorKnown", fn := fun _ => fun
  | [] => { results := [.lit (.bool false)], args := [] }
  | _ => none }
def SectorKnownWrongFalsely : Prop := sectorKnownRow.holds Tryd.pinned (OpenSpec.ofChange sectorKnownWrong)

/- THE SECOND FORM. 'bulk': how many values and letters a reading holds, each counted each time it is reached (what is shared counts as often as it is met; a slice's spare places count too). A statement '..UptoSaid' is the law's where the arguments, and the package variables that the reading takes, are together of bulk at most 1048576: NARROWER than '..Said'. Prove '..Said' where nothing that the law and all that it calls make is longer than what came in: it says more and counts as full. Else prove '..UptoSaid'. A law counts once. -/
mutual
def uptoBulk {H : Type} : DataW H → Nat
  | .lit (.string bytes) => bytes.length + 1
  | .lit _ => 1
  | .nil => 1
  | .ptr d => uptoBulk d + 1
  | .slice elems spare => uptoBulkAll elems + uptoBulkAll spare + 1
  | .agg parts => uptoBulkAll parts + 1
  | .iface _ d => uptoBulk d + 1
  | .map entries => uptoBulkEntries entries + 1
  | .held _ => 1
def uptoBulkAll {H : Type} : List (DataW H) → Nat
  | [] => 0
  | d :: r => uptoBulk d + uptoBulkAll r
def uptoBulkEntries {H : Type} : List (Lit × DataW H) → Nat
  | [] => 0
  | x :: r => uptoBulkEntry x + uptoBulkEntries r
def uptoBulkEntry {H : Type} : Lit × DataW H → Nat
  | (.string bytes, d) => bytes.length + uptoBulk d + 1
  | (_, d) => uptoBulk d + 1
 end
def uptoSmall : (H : Type) → List (DataW H) → Bool := fun _ ds => decide (uptoBulkAll ds ≤ 1048576)
def OpenSpec.upto (s : _root_.Go.ChangeSpec) : _root_.Go.OpenSpec := { _root_.Go.OpenSpec.ofChange s with cond := some uptoSmall }

/-- 'bedrocklaw20.SectorLast', WHERE WHAT IT READS IS OF BULK AT MOST 1048576: true; the input reads as it did. -/
def sectorLastUptoRow : OpenClaim := { program := "yteooldbdilkmeaadoor", sum := "4da3f8504e766de6c376a93a53ac6a93a4b3a8de9a687d2e068d8de6b20d8549", func := "bedrock/bedrocklaw20.SectorLast", spec := "sectorLast", inPlace := ["internal/bytealg.IndexByteString", "internal/bytealg.IndexString", "internal/abi.NoEscape", "internal/bytealg.MakeNoZero", "maps.clone"], named := ["unicode/utf8.first", "unicode/utf8.acceptRanges", "internal/bytealg.MaxLen"], apart := false, laid := [("unicode/utf8.acceptRanges", laid_unicode_utf8_acceptRanges), ("unicode/utf8.first", laid_unicode_utf8_first)], narrowed := true }
def SectorLastUptoSaid : Prop := sectorLastUptoRow.holds Tryd.pinned (OpenSpec.upto sectorLastSpec)

/-- 'bedrocklaw20.SectorRefused', WHERE WHAT IT READS IS OF BULK AT MOST 1048576: true; the input reads as it did. -/
def sectorRefusedUptoRow : OpenClaim := { program := "yteooldbdilkmeaadoor", sum := "4da3f8504e766de6c376a93a53ac6a93a4b3a8de9a687d2e068d8de6b20d8549", func := "bedrock/bedrocklaw20.SectorRefused", spec := "sectorRefused", inPlace := ["internal/bytealg.IndexByteString", "internal/bytealg.IndexString", "internal/abi.NoEscape", "internal/bytealg.MakeNoZero", "maps.clone"], unfollowed := true, recurses := true, named := ["unicode/utf8.first", "unicode/utf8.acceptRanges", "internal/bytealg.MaxLen"], apart := false, laid := [("unicode/utf8.acceptRanges", laid_unicode_utf8_acceptRanges), ("unicode/utf8.first", laid_unicode_utf8_first)], narrowed := true }
def SectorRefusedUptoSaid : Prop := sectorRefusedUptoRow.holds Tryd.pinned (OpenSpec.upto sectorRefusedSpec)

/-- 'bedrocklaw20.SectorCuts', WHERE WHAT IT READS IS OF BULK AT MOST 1048576: true; the input reads as it did. -/
def sectorCutsUptoRow : OpenClaim := { program := "yteooldbdilkmeaadoor", sum := "4da3f8504e766de6c376a93a53ac6a93a4b3a8de9a687d2e068d8de6b20d8549", func := "bedrock/bedrocklaw20.SectorCuts", spec := "sectorCuts", inPlace := ["internal/bytealg.IndexByteString", "internal/bytealg.IndexString", "internal/abi.NoEscape", "internal/bytealg.MakeNoZero", "maps.clone"], unfollowed := true, recurses := true, named := ["unicode/utf8.first", "unicode/utf8.acceptRanges", "internal/bytealg.MaxLen"], apart := false, laid := [("unicode/utf8.acceptRanges", laid_unicode_utf8_acceptRanges), ("unicode/utf8.first", laid_unicode_utf8_first)], narrowed := true }
def SectorCutsUptoSaid : Prop := sectorCutsUptoRow.holds Tryd.pinned (OpenSpec.upto sectorCutsSpec)

/-- 'bedrocklaw20.SectorApart', WHERE WHAT IT READS IS OF BULK AT MOST 1048576: true; the input reads as it did. -/
def sectorApartUptoRow : OpenClaim := { program := "yteooldbdilkmeaadoor", sum := "4da3f8504e766de6c376a93a53ac6a93a4b3a8de9a687d2e068d8de6b20d8549", func := "bedrock/bedrocklaw20.SectorApart", spec := "sectorApart", inPlace := ["internal/bytealg.IndexByteString", "internal/bytealg.IndexString", "maps.clone", "internal/abi.NoEscape", "internal/bytealg.MakeNoZero"], unfollowed := true, recurses := true, named := ["unicode/utf8.first", "unicode/utf8.acceptRanges", "internal/bytealg.MaxLen"], apart := false, laid := [("unicode/utf8.acceptRanges", laid_unicode_utf8_acceptRanges), ("unicode/utf8.first", laid_unicode_utf8_first)], narrowed := true }
def SectorApartUptoSaid : Prop := sectorApartUptoRow.holds Tryd.pinned (OpenSpec.upto sectorApartSpec)

/-- 'bedrocklaw20.SectorPlays', WHERE WHAT IT READS IS OF BULK AT MOST 1048576: true; the input reads as it did. -/
def sectorPlaysUptoRow : OpenClaim := { program := "yteooldbdilkmeaadoor", sum := "4da3f8504e766de6c376a93a53ac6a93a4b3a8de9a687d2e068d8de6b20d8549", func := "bedrock/bedrocklaw20.SectorPlays", spec := "sectorPlays", inPlace := ["internal/bytealg.IndexByteString", "internal/bytealg.IndexString", "maps.clone", "internal/abi.NoEscape", "internal/bytealg.MakeNoZero"], unfollowed := true, recurses := true, named := ["unicode/utf8.first", "unicode/utf8.acceptRanges", "internal/bytealg.MaxLen"], apart := false, laid := [("unicode/utf8.acceptRanges", laid_unicode_utf8_acceptRanges), ("unicode/utf8.first", laid_unicode_utf8_first)], narrowed := true }
def SectorPlaysUptoSaid : Prop := sectorPlaysUptoRow.holds Tryd.pinned (OpenSpec.upto sectorPlaysSpec)

/-- 'bedrocklaw20.SectorKnown', WHERE WHAT IT READS IS OF BULK AT MOST 1048576: true; the input reads as it did. -/
def sectorKnownUptoRow : OpenClaim := { program := "yteooldbdilkmeaadoor", sum := "4da3f8504e766de6c376a93a53ac6a93a4b3a8de9a687d2e068d8de6b20d8549", func := "bedrock/bedrocklaw20.SectorKnown", spec := "sectorKnown", inPlace := ["internal/bytealg.IndexByteString", "internal/bytealg.IndexString", "internal/abi.NoEscape", "internal/bytealg.MakeNoZero", "maps.clone"], unfollowed := true, recurses := true, named := ["unicode/utf8.first", "unicode/utf8.acceptRanges", "internal/bytealg.MaxLen"], apart := false, laid := [("unicode/utf8.acceptRanges", laid_unicode_utf8_acceptRanges), ("unicode/utf8.first", laid_unicode_utf8_first)], narrowed := true }
def SectorKnownUptoSaid : Prop := sectorKnownUptoRow.holds Tryd.pinned (OpenSpec.upto sectorKnownSpec)

end Rows
end Go.Proofs.YteooldbdilkmeaaDoor
