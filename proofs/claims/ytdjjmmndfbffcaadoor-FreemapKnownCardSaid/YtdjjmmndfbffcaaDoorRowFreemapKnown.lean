/- The card of the statement FreemapKnown: out of the walk FM.knownWalk. -/
import Derived.Test.YtdjjmmndfbffcaaDoorAFreemapKnown
import Derived.Test.YtdjjmmndfbffcaaDoorRows
import Derived.Test.YtdjjmmndfbffcaaDoorCards
import Derived.Test.YtdjjmmndfbffcaaDoorTie
import Derived.Test.YtdjjmmndfbffcaaDoorWSized
import Derived.WalkKit
import Derived.ProofKit
import Derived.OpenShut
import Derived.ShutString
import Derived.ChangeOld
import Derived.Below
import Derived.SizedLaws
import Derived.Carry
import Derived.Lib.SmallJoins
import Derived.Deep.DeepHandedRow
import Derived.Lib.LaidTab
import Derived.SevenTiedAt
import Derived.JoinedCond
import Derived.DataShut
namespace Go.Proofs.YtdjjmmndfbffcaaDoor.freemapKnown
open Go.ChangeShapes Go.WideShapes Go.ChangeAt Go.RowKit Go.Joins Go.Proofs.YtdjjmmndfbffcaaDoorW
open Go.ChangeMaps (open_string shut_string)
set_option linter.unusedVariables false
set_option linter.unusedSimpArgs false
theorem own : ownKnob Tryd.prog.godebug = none := by kernel_rfl
theorem laidOut : laidOutB Tryd.prog = true := by kernel_rfl
theorem gT : Tryd.prog.globalNamed "math/bits.deBruijn64tab" = some 0 := by kernel_rfl
theorem gTType : (Tryd.prog.globals[0]?).map (·.type) = some 67 := by kernel_rfl
theorem cellsE : Tryd.prog.cellsOf 5 = 1 := by kernel_rfl
theorem cellsT : Tryd.prog.cellsOf 67 = 64 := by kernel_rfl
def tabZ : List Int := [0, 1, 56, 2, 57, 49, 28, 3, 61, 58, 42, 50, 38, 29, 17, 4, 62, 47, 59, 36, 45, 43, 51, 22, 53, 39, 33, 30, 24, 18, 12, 5, 63, 55, 48, 27, 60, 41, 37, 16, 46, 35, 44, 21, 52, 32, 23, 11, 54, 26, 40, 15, 34, 20, 31, 10, 25, 14, 19, 9, 13, 8, 7, 6]
theorem tab_is : ∀ i < 64, tabZ.getD i 0 = ((Lib.deBruijn64tab.getD i 0 : Nat) : Int) := by decide +kernel
theorem gT1 : Tryd.prog.globalNamed "bedrock/crc.halves" = some 1 := by kernel_rfl
theorem gTType1 : (Tryd.prog.globals[1]?).map (·.type) = some 75 := by kernel_rfl
theorem cellsE1 : Tryd.prog.cellsOf 64 = 1 := by kernel_rfl
theorem cellsT1 : Tryd.prog.cellsOf 75 = 16 := by kernel_rfl
def tabZ1 : List Int := [0, 274646895, 549293790, 820201905, 1098587580, 1361435347, 1640403810, 1905808397, 2197175160, 2460548119, 2722870694, 2987750089, 3280807620, 3553878443, 3811616794, 4084100981]
theorem tab_is1 : ∀ i < 16, tabZ1.getD i 0 = ((CK.T i : Nat) : Int) := by decide
theorem laid_tail {P : Program} {x : String × DataW Unit} {r : List (String × DataW Unit)} {W : World} (h : laidMet P (x :: r) W) : laidMet P r W := by
  obtain ⟨n, d⟩ := x
  obtain ⟨ps, ⟨_, _, _, _, p, q, _, _, _, _, hq, hps⟩, hnd, hc⟩ := h
  subst hps
  exact ⟨q, hq, (List.nodup_append.1 hnd).2.1, fun b off hb => hc b off (List.mem_append_right _ hb)⟩
/-! The settled world, the tables holding what their initialisers lay: the witness. -/
def lay0 : Obj → Obj
  | .cells _ t frozen => .cells (tabZ.map fun z => Value.int .u8 z).toArray t frozen
  | o => o
def lay1 : Obj → Obj
  | .cells _ t frozen => .cells (tabZ1.map fun z => Value.int .u32 z).toArray t frozen
  | o => o
noncomputable def laidHeap (os : Os) : Array Obj := ((World.holding Tryd.prog os ⟨#[], #[], []⟩).heap.modify 0 lay0).modify 1 lay1
noncomputable def laidWorld (os : Os) : World := { World.holding Tryd.prog os ⟨#[], #[], []⟩ with heap := laidHeap os }
theorem laid_met (os : Os) (args : Array Value) : laidMet Tryd.prog Rows.freemapKnownRow.laid ((laidWorld os).forCall (fun _ _ => 0) ⟨#[], args, []⟩).memory :=
  laidMet_of_run' 8 (by kernel_rfl) (by kernel_rfl)
theorem witness_row (os : Os) {H : Type} (enc : TypeId × Value → H) :
    (OpenSpec.ofChange Rows.freemapKnownSpec).preRow enc Tryd.prog Tryd.f10 Rows.freemapKnownRow.domain false Rows.freemapKnownRow.laid ((laidWorld os).forCall (fun _ _ => 0) ⟨#[], #[], []⟩).memory #[] := by
  have hw : (DataW.whole enc Tryd.prog ((laidWorld os).forCall (fun _ _ => 0) ⟨#[], #[], []⟩).memory Tryd.f10.params.toList (OpenSpec.ofChange Rows.freemapKnownSpec).vars false (#[] : Array Value).toList 8).isSome = true := by kernel_rfl
  obtain ⟨⟨x1, x2, x3⟩, hx⟩ := Option.isSome_iff_exists.1 hw
  exact OpenSpec.preRow_of_cond 8 hx rfl (fun k hk => by cases hk) (by kernel_rfl) (laid_met os _)
set_option maxRecDepth 100000 in
theorem lifted (os : Os) (started : os.Started) (H : Type) (enc : TypeId × Value → H) (F : Stop.Interp) :
    ReturnsInHanded {} Tryd.checked os 10 .any ((OpenSpec.ofChange Rows.freemapKnownSpec).preRow enc Tryd.prog Tryd.f10 Rows.freemapKnownRow.domain false Rows.freemapKnownRow.laid) (((OpenSpec.ofChange Rows.freemapKnownSpec).at F).post enc Tryd.prog Tryd.f10 false true false false) := by
  refine returnsInHanded_of_row (C := Tryd.checked) (s := (OpenSpec.ofChange Rows.freemapKnownSpec)) own started (by kernel_rfl) Tryd.func10
    (witness_row_at (enc := enc) (C := Tryd.checked) false (laidWorld os) #[] rfl (by kernel_rfl) (by kernel_rfl) (by kernel_rfl) (witness_row os enc)) ?_
  intro W base args ds gs before hval0 hW hcnd hcond0 hsz0 hL hsh _
  have hsz : (DataW.weightsEach Tryd.prog (Tryd.f10.params.toList ++ Rows.freemapKnownSpec.plain.varTypes Tryd.prog) (ds ++ gs)).all (· ≤ reachBytes) = true := hsz0
  have hval : ∀ (j : Nat) t v, Tryd.f10.params[j]? = some t → args[j]? = some v → Value.okWide Tryd.prog W .any base t v := hval0
  have hW' := hW
  obtain ⟨p, q, hA0, hV, rfl, hfz, hnd⟩ := hW
  have hA : DataW.TrodAll enc Tryd.prog W 0 (fun _ => true) true Tryd.f10.params.toList args.toList ds p := hA0
  rw [Tryd.params10] at hA hval hsz
  obtain ⟨rfl, rfl, rfl⟩ := trodAll_none hA
  obtain ⟨rfl, rfl⟩ := trodVars_none hV
  have htab1 : Lib.TabIs Tryd.prog W "bedrock/crc.halves" .u32 tabZ1 := Lib.tabIs_of_head gT1 gTType1 Tryd.underlying75 Tryd.underlying64 cellsE1 cellsT1 hL
  have hL2 := laid_tail hL
  have hTab1 : CK.Tab W := fun i hi => by rw [← tab_is1 i hi]; exact htab1.cell gT1 i hi
  have htab : Lib.TabIs Tryd.prog W "math/bits.deBruijn64tab" .u8 tabZ := Lib.tabIs_of_head gT gTType Tryd.underlying67 Tryd.underlying5 cellsE cellsT hL2
  have hTZ : FM.TZ W := fun i hi => by rw [← tab_is i hi]; exact htab.cell gT i hi
  refine (FM.knownWalk  W  hTZ hTab1).mono fun e W' ⟨he, bel⟩ => ?_
  subst he
  exact ⟨_, rfl, _, _, _, [], _, [], hW', trodAll_mk1 (shut_bool Tryd.underlying4 _), trodAll_mk0, rfl, bel.frame _, fun h => by cases h⟩
theorem over : Rows.freemapKnownRow.holds Tryd.pinned (OpenSpec.ofChange Rows.freemapKnownSpec) :=
  OpenClaim.holds_of_cond 10 Tryd.f10 rfl rfl rfl rfl rfl rfl rfl ⟨rfl, rfl, rfl, rfl, rfl⟩ rfl rfl rfl rfl rfl (by kernel_rfl) Tryd.func10 (by kernel_rfl)
    (of_decide_eq_true (by kernel_rfl)) (by unfold Func.isWrapper; first | (rw [if_pos (by decide +kernel)]; kernel_rfl) | (rw [if_neg (by decide +kernel)]; exact ⟨rfl, rfl⟩))
    (fun os started H enc _ F0 => by rw [OpenClaim.pre_eq_preRow]; exact lifted os started H enc F0)
end Go.Proofs.YtdjjmmndfbffcaaDoor.freemapKnown
namespace Go.Proofs.YtdjjmmndfbffcaaDoor
open Go
/-- The tied card. -/
theorem freemapKnown_holds : Rows.FreemapKnownCardSaid :=
  Claim7.holds_tied_plain_at .later [] [.data, .data] true (true, "ceab420cb252011f07ca4817124ac2c2efd64612e1e851970cc14fa303fe2b8e") false
    freemapKnown.over (fun _ h => by cases h) (by kernel_rfl) (fun _ h => by cases h) freemapKnown_row_tie rfl ⟨rfl, rfl⟩ (by kernel_rfl) rfl
    (fun f fn hf hfn => by
      obtain rfl : f = 10 := Option.some.inj ((show Tryd.prog.funcNamed "bedrock/bedrocklaw22.FreemapKnown" = some 10 by kernel_rfl).symm.trans hf) |>.symm
      obtain rfl : fn = Tryd.f10 := (Option.some.inj (Tryd.func10.symm.trans hfn)).symm
      exact ⟨by kernel_rfl, fun j t ht => by
        rw [Tryd.params10] at ht
        simp at ht⟩)
    (by kernel_rfl)
end Go.Proofs.YtdjjmmndfbffcaaDoor
