/-
  No cell of these rows narrows 'for every input' (looked for: loops, veiled, ifaces, maps, wideKeys, modest, calm, conditions, laid).
  DERIVED. THE GIVEN ROWS OF THIS SEAT. 6 by the template 'for every input the law returns true; each argument reads behind the call as it read before'; 0 by the template 'total and deterministic' (their statements: YtijjecnmdhefbaaTotals.lean).
  GIVEN WITH THE SEED: the statements are not yours to turn. If you find one false, say at which input.
  Laid BY PROGRAM, IN A SANDBOX (cutbox-rows.mjs): the forced cells as the released guide's own fill.sh prints them over the translation 80c3b96af0bbbead… (all of the seat's roots in one cut). By AI agents, Wed Nov 11 2026. No macro, syntax, notation, axiom, sorry.
-/
import Derived.Test.YtijjecnmdhefbaaChecked
import GoSem.Claim
import GoSem.ClaimJoined
import GoSem.ClaimMapViews
import Derived.JoinedTies
import Derived.KernelRfl
namespace Go.Proofs.Ytijjecnmdhefbaa
/- THE CELL 'sum', in the pinned program and in every row, IS THE sha256 OF THE DUMP (.gsa) THAT YtijjecnmdhefbaaProg.lean LOADS. Nothing in Lean hashes anything: it is a label: what it is worth is what the hold of that sum in a sandbox is worth. -/
noncomputable def Try.pinned : Pinned := { name := "ytijjecnmdhefbaa", sum := "80c3b96af0bbbead9f105f11f30ef4fd345bede9932083d3706af6c0094641ab", checked := Try.checked }
namespace Rows
def none {H : Type} : Left H := { results := [], args := [] }

/-- 'bedrocklaw24.RegionPlaces': WHATEVER THE INPUT: true; the input reads as it did. -/
def regionPlacesSpec : ChangeSpec := { name := "regionPlaces", fn := fun _ => fun
  | [d1, d2, d3] => { results := [.lit (.bool true)], args := [d1, d2, d3] }
  | _ => none }
def regionPlacesRow : OpenClaim := { program := "ytijjecnmdhefbaa", sum := "80c3b96af0bbbead9f105f11f30ef4fd345bede9932083d3706af6c0094641ab", func := "bedrock/bedrocklaw24.RegionPlaces", spec := "regionPlaces", apart := false }
def RegionPlacesSaid : Prop := regionPlacesRow.holds Try.pinned (OpenSpec.ofChange regionPlacesSpec)

/-- ITS FALSE NEIGHBOUR: 'it returns false'. Refute it at one input. -/
def regionPlacesWrong : ChangeSpec := { name := "regionPlaces", fn := fun _ => fun
  | [d1, d2, d3] => { results := [.lit (.bool false)], args := [d1, d2, d3] }
  | _ => none }
def RegionPlacesWrongFalsely : Prop := regionPlacesRow.holds Try.pinned (OpenSpec.ofChange regionPlacesWrong)

/-- 'bedrocklaw24.RegionBack': WHATEVER THE INPUT: true; the input reads as it did. -/
def regionBackSpec : ChangeSpec := { name := "regionBack", fn := fun _ => fun
  | [d] => { results := [.lit (.bool true)], args := [d] }
  | _ => none }
def regionBackRow : OpenClaim := { program := "ytijjecnmdhefbaa", sum := "80c3b96af0bbbead9f105f11f30ef4fd345bede9932083d3706af6c0094641ab", func := "bedrock/bedrocklaw24.RegionBack", spec := "regionBack", apart := false }
def RegionBackSaid : Prop := regionBackRow.holds Try.pinned (OpenSpec.ofChange regionBackSpec)

/-- ITS FALSE NEIGHBOUR: 'it returns false'. Refute it at one input. -/
def regionBackWrong : ChangeSpec := { name := "regionBack", fn := fun _ => fun
  | [d] => { results := [.lit (.bool false)], args := [d] }
  | _ => none }
def RegionBackWrongFalsely : Prop := regionBackRow.holds Try.pinned (OpenSpec.ofChange regionBackWrong)

/-- 'bedrocklaw24.RegionDirectories': WHATEVER THE INPUT: true; the input reads as it did. -/
def regionDirectoriesSpec : ChangeSpec := { name := "regionDirectories", fn := fun _ => fun
  | [d1, d2] => { results := [.lit (.bool true)], args := [d1, d2] }
  | _ => none }
def regionDirectoriesRow : OpenClaim := { program := "ytijjecnmdhefbaa", sum := "80c3b96af0bbbead9f105f11f30ef4fd345bede9932083d3706af6c0094641ab", func := "bedrock/bedrocklaw24.RegionDirectories", spec := "regionDirectories", unfollowed := true, recurses := true, apart := false }
def RegionDirectoriesSaid : Prop := regionDirectoriesRow.holds Try.pinned (OpenSpec.ofChange regionDirectoriesSpec)

/-- ITS FALSE NEIGHBOUR: 'it returns false'. Refute it at one input. -/
def regionDirectoriesWrong : ChangeSpec := { name := "regionDirectories", fn := fun _ => fun
  | [d1, d2] => { results := [.lit (.bool false)], args := [d1, d2] }
  | _ => none }
def RegionDirectoriesWrongFalsely : Prop := regionDirectoriesRow.holds Try.pinned (OpenSpec.ofChange regionDirectoriesWrong)

/-- 'bedrocklaw24.RegionRoots': WHATEVER THE INPUT: true; the input reads as it did. -/
def regionRootsSpec : ChangeSpec := { name := "regionRoots", fn := fun _ => fun
  | [d1, d2] => { results := [.lit (.bool true)], args := [d1, d2] }
  | _ => none }
def regionRootsRow : OpenClaim := { program := "ytijjecnmdhefbaa", sum := "80c3b96af0bbbead9f105f11f30ef4fd345bede9932083d3706af6c0094641ab", func := "bedrock/bedrocklaw24.RegionRoots", spec := "regionRoots", unfollowed := true, recurses := true, apart := false }
def RegionRootsSaid : Prop := regionRootsRow.holds Try.pinned (OpenSpec.ofChange regionRootsSpec)

/-- ITS FALSE NEIGHBOUR: 'it returns false'. Refute it at one input. -/
def regionRootsWrong : ChangeSpec := { name := "regionRoots", fn := fun _ => fun
  | [d1, d2] => { results := [.lit (.bool false)], args := [d1, d2] }
  | _ => none }
def RegionRootsWrongFalsely : Prop := regionRootsRow.holds Try.pinned (OpenSpec.ofChange regionRootsWrong)

/-- 'bedrocklaw24.RegionAgain': WHATEVER THE INPUT: true; the input reads as it did. -/
def regionAgainSpec : ChangeSpec := { name := "regionAgain", fn := fun _ => fun
  | [d1, d2, d3] => { results := [.lit (.bool true)], args := [d1, d2, d3] }
  | _ => none }
def regionAgainRow : OpenClaim := { program := "ytijjecnmdhefbaa", sum := "80c3b96af0bbbead9f105f11f30ef4fd345bede9932083d3706af6c0094641ab", func := "bedrock/bedrocklaw24.RegionAgain", spec := "regionAgain", unfollowed := true, recurses := true, apart := false }
def RegionAgainSaid : Prop := regionAgainRow.holds Try.pinned (OpenSpec.ofChange regionAgainSpec)

/-- ITS FALSE NEIGHBOUR: 'it returns false'. Refute it at one input. -/
def regionAgainWrong : ChangeSpec := { name := "regionAgain", fn := fun _ => fun
  | [d1, d2, d3] => { results := [.lit (.bool false)], args := [d1, d2, d3] }
  | _ => none }
def RegionAgainWrongFalsely : Prop := regionAgainRow.holds Try.pinned (OpenSpec.ofChange regionAgainWrong)

/-- 'bedrocklaw24.RegionOrdered': WHATEVER THE INPUT: true; the input reads as it did. -/
def regionOrderedSpec : ChangeSpec := { name := "regionOrdered", fn := fun _ => fun
  | [d] => { results := [.lit (.bool true)], args := [d] }
  | _ => none }
def regionOrderedRow : OpenClaim := { program := "ytijjecnmdhefbaa", sum := "80c3b96af0bbbead9f105f11f30ef4fd345bede9932083d3706af6c0094641ab", func := "bedrock/bedrocklaw24.RegionOrdered", spec := "regionOrdered", unfollowed := true, recurses := true, apart := false }
def RegionOrderedSaid : Prop := regionOrderedRow.holds Try.pinned (OpenSpec.ofChange regionOrderedSpec)

/-- ITS FALSE NEIGHBOUR: 'it returns false'. Refute it at one input. -/
def regionOrderedWrong : ChangeSpec := { name := "regionOrdered", fn := fun _ => fun
  | [d] => { results := [.lit (.bool false)], args := [d] }
  | _ => none }
def RegionOrderedWrongFalsely : Prop := regionOrderedRow.holds Try.pinned (OpenSpec.ofChange regionOrderedWrong)

/- THE SECOND FORM. 'bulk': how many values and letters a reading holds, each counted each time it is reached (what is shared counts as often as it is met; a slice's spare places count too). A statement '..UptoSaid' is the law's where the arguments, and the package variables that the reading takes, are together of bulk at most 1048576: NARROWER than '..Said'. Prove '..Said' where nothing that the law and all that it calls make is longer than what came in: it says more and counts as full. Else prove '..UptoSaid'. A law counts once. -/
mutual
def uptoBulk {H : Type} : DataW H → Nat
  | .lit (.string bytes) => bytes.length + 1
  | .lit _ => 1
  | .nil => 1
  | .ptr d => uptoBulk d + 1
  | .slice elems spare => uptoBulkAll elems + uptoBulkAll spare + 1
  | .agg parts => uptoBulkAll parts + 1
  | .iface _ d => uptoBulk d + 1
  | .map entries => uptoBulkEntries entries + 1
  | .held _ => 1
def uptoBulkAll {H : Type} : List (DataW H) → Nat
  | [] => 0
  | d :: r => uptoBulk d + uptoBulkAll r
def uptoBulkEntries {H : Type} : List (Lit × DataW H) → Nat
  | [] => 0
  | x :: r => uptoBulkEntry x + uptoBulkEntries r
def uptoBulkEntry {H : Type} : Lit × DataW H → Nat
  | (.string bytes, d) => bytes.length + uptoBulk d + 1
  | (_, d) => uptoBulk d + 1
 end
def uptoSmall : (H : Type) → List (DataW H) → Bool := fun _ ds => decide (uptoBulkAll ds ≤ 1048576)
def OpenSpec.upto (s : _root_.Go.ChangeSpec) : _root_.Go.OpenSpec := { _root_.Go.OpenSpec.ofChange s with cond := some uptoSmall }

/-- 'bedrocklaw24.RegionPlaces', WHERE WHAT IT READS IS OF BULK AT MOST 1048576: true; the input reads as it did. -/
def regionPlacesUptoRow : OpenClaim := { program := "ytijjecnmdhefbaa", sum := "80c3b96af0bbbead9f105f11f30ef4fd345bede9932083d3706af6c0094641ab", func := "bedrock/bedrocklaw24.RegionPlaces", spec := "regionPlaces", apart := false, narrowed := true }
def RegionPlacesUptoSaid : Prop := regionPlacesUptoRow.holds Try.pinned (OpenSpec.upto regionPlacesSpec)

/-- 'bedrocklaw24.RegionBack', WHERE WHAT IT READS IS OF BULK AT MOST 1048576: true; the input reads as it did. -/
def regionBackUptoRow : OpenClaim := { program := "ytijjecnmdhefbaa", sum := "80c3b96af0bbbead9f105f11f30ef4fd345bede9932083d3706af6c0094641ab", func := "bedrock/bedrocklaw24.RegionBack", spec := "regionBack", apart := false, narrowed := true }
def RegionBackUptoSaid : Prop := regionBackUptoRow.holds Try.pinned (OpenSpec.upto regionBackSpec)

/-- 'bedrocklaw24.RegionDirectories', WHERE WHAT IT READS IS OF BULK AT MOST 1048576: true; the input reads as it did. -/
def regionDirectoriesUptoRow : OpenClaim := { program := "ytijjecnmdhefbaa", sum := "80c3b96af0bbbead9f105f11f30ef4fd345bede9932083d3706af6c0094641ab", func := "bedrock/bedrocklaw24.RegionDirectories", spec := "regionDirectories", unfollowed := true, recurses := true, apart := false, narrowed := true }
def RegionDirectoriesUptoSaid : Prop := regionDirectoriesUptoRow.holds Try.pinned (OpenSpec.upto regionDirectoriesSpec)

/-- 'bedrocklaw24.RegionRoots', WHERE WHAT IT READS IS OF BULK AT MOST 1048576: true; the input reads as it did. -/
def regionRootsUptoRow : OpenClaim := { program := "ytijjecnmdhefbaa", sum := "80c3b96af0bbbead9f105f11f30ef4fd345bede9932083d3706af6c0094641ab", func := "bedrock/bedrocklaw24.RegionRoots", spec := "regionRoots", unfollowed := true, recurses := true, apart := false, narrowed := true }
def RegionRootsUptoSaid : Prop := regionRootsUptoRow.holds Try.pinned (OpenSpec.upto regionRootsSpec)

/-- 'bedrocklaw24.RegionAgain', WHERE WHAT IT READS IS OF BULK AT MOST 1048576: true; the input reads as it did. -/
def regionAgainUptoRow : OpenClaim := { program := "ytijjecnmdhefbaa", sum := "80c3b96af0bbbead9f105f11f30ef4fd345bede9932083d3706af6c0094641ab", func := "bedrock/bedrocklaw24.RegionAgain", spec := "regionAgain", unfollowed := true, recurses := true, apart := false, narrowed := true }
def RegionAgainUptoSaid : Prop := regionAgainUptoRow.holds Try.pinned (OpenSpec.upto regionAgainSpec)

/-- 'bedrocklaw24.RegionOrdered', WHERE WHAT IT READS IS OF BULK AT MOST 1048576: true; the input reads as it did. -/
def regionOrderedUptoRow : OpenClaim := { program := "ytijjecnmdhefbaa", sum := "80c3b96af0bbbead9f105f11f30ef4fd345bede9932083d3706af6c0094641ab", func := "bedrock/bedrocklaw24.RegionOrdered", spec := "regionOrdered", unfollowed := true, recurses := true, apart := false, narrowed := true }
def RegionOrderedUptoSaid : Prop := regionOrderedUptoRow.holds Try.pinned (OpenSpec.upto regionOrderedSpec)

end Rows
end Go.Proofs.Ytijjecnmdhefbaa
