/- Walks for the laws of the chapter hash: mixing, and the draw of a seed, a place and a time, are the reference's. -/
import Derived.Test.YtfogcdmibakhbaaHashWalks
import Derived.Test.YtfogcdmibakhbaaPHashKnownx1
import Derived.Deep.RegionHeld3
namespace Go.Proofs.Ytfogcdmibakhbaa.HW
open Go.RowKit Go.Proofs.YtfogcdmibakhbaaW.PrintWords Go.Proofs.YtfogcdmibakhbaaW.PrintLast Go.Proofs.YtfogcdmibakhbaaW.PrintMore
set_option linter.unusedVariables false
set_option linter.unusedSimpArgs false
theorem mix_calls (a0 : Int) (w : World) : Calls Try.prog 9 #[.int .u64 a0] w fun e w' => e = .returned (.int .u64 (HP.mix a0)) ∧ Drawn0 w w' := PHashKnown.hash_Mix.calls a0 _ w rfl
theorem awake_calls (w : World) : Calls Try.prog 11 #[] w fun e w' => e = .returned (.bool true) ∧ Drawn0 w w' := PHashKnown.bedrocklaw03_awake.calls true w (by kernel_rfl)
/-- The draw of a seed, a place and a time. -/
def drawOf (a0 x y z t : Int) : Int := HP.mix (bits .xor .u64 (HP.mix (bits .xor .u64 (HP.mix (bits .xor .u64 (HP.mix (bits .xor .u64 (HP.mix a0) (IntKind.u64.wrap x))) (IntKind.u64.wrap y))) (IntKind.u64.wrap z))) (IntKind.u64.wrap t))
theorem fold_step (k : Nat) (h x : Int) (l : List Int) (i : Int) (n : Int) (hn : n = l.length) (h0 : 0 ≤ i) (h1 : i < n) (hx : rd l i = x) (j : Int) (hj : wrap64 (i + 1) = j) :
    PHashKnown.hash_fold.l0 (k + 1) h l n i = PHashKnown.hash_fold.l0 k (HP.mix (bits .xor .u64 h x)) l n j := by
  simp only [PHashKnown.hash_fold.l0]
  rw [if_pos h1, if_pos h0, if_pos (by omega), hx, hj]
  rfl
theorem of_f (a0 x y z t : Int) : PHashKnown.hash_Of.f 9 a0 x y z t = some (drawOf a0 x y z t) := by
  unfold PHashKnown.hash_Of.f PHashKnown.hash_fold.f
  show ((PHashKnown.hash_fold.l0 9 (HP.mix a0) [IntKind.u64.wrap x, IntKind.u64.wrap y, IntKind.u64.wrap z, IntKind.u64.wrap t] 4 0).bind fun t112 => (some t112)) = _
  rw [fold_step 8 _ _ _ 0 4 rfl (by decide) (by decide) rfl 1 (by kernel_rfl), fold_step 7 _ _ _ 1 4 rfl (by decide) (by decide) rfl 2 (by kernel_rfl), fold_step 6 _ _ _ 2 4 rfl (by decide) (by decide) rfl 3 (by kernel_rfl), fold_step 5 _ _ _ 3 4 rfl (by decide) (by decide) rfl 4 (by kernel_rfl)]
  rfl
theorem of_calls (a0 x y z t : Int) (w : World) : Calls Try.prog 14 #[.int .u64 a0, .agg #[.int .i64 x, .int .i64 y, .int .i64 z], .int .i64 t] w fun e w' => e = .returned (.int .u64 (drawOf a0 x y z t)) ∧ Below w.heap.size w w' :=
  PHashKnown.hash_Of.calls 9 a0 x y z t _ w (of_f a0 x y z t)
set_option maxHeartbeats 400000 in
set_option maxRecDepth 100000 in
theorem refOf_calls (a0 x y z t : Int) (w : World) : Calls Try.prog 15 #[.int .u64 a0, .agg #[.int .i64 x, .int .i64 y, .int .i64 z], .int .i64 t] w fun e w' => e = .returned (.int .u64 (drawOf a0 x y z t)) ∧ Below w.heap.size w w' := by
  unfold drawOf
  have HB := Aside0.mk (Below.refl w.heap.size w)
  go_enter Try.func15, Try.ntmps15
  go_wp2_with (go_at_call 10; refine (refMix_calls _ _).mono ?_; rintro e w' ⟨rfl, ⟨nd, rfl⟩⟩)
  go_ret
  exact ⟨rfl, by repeat (first | (with_reducible first | exact HB.out | apply below_alloc | apply pw_below_drewN | apply below_drew1) | exact HB.out)⟩

set_option maxHeartbeats 400000 in
set_option maxRecDepth 100000 in
theorem mixLaw (a0 : Int) (w : World) (w0 : (Lit.int .u64 a0).wf = true) : Calls Try.prog 3 #[.int .u64 a0] w fun e w' => e = .returned (.bool true) ∧ Below w.heap.size w w' := by
  clear w0
  have HB := Aside0.mk (Below.refl w.heap.size w)
  go_enter Try.func3, Try.ntmps3
  go_wp2_with (first | (go_at_call 9; refine (mix_calls _ _).mono ?_; rintro e w' ⟨rfl, ⟨nd, rfl⟩⟩) | (go_at_call 10; refine (refMix_calls _ _).mono ?_; rintro e w' ⟨rfl, ⟨nd, rfl⟩⟩) | (go_at_call 11; refine (awake_calls _).mono ?_; rintro e w' ⟨rfl, ⟨nd, rfl⟩⟩))
  go_ret
  exact ⟨rfl, by repeat (first | (with_reducible first | exact HB.out | apply below_alloc | apply pw_below_drewN | apply below_drew1) | exact HB.out)⟩

set_option maxHeartbeats 400000 in
set_option maxRecDepth 100000 in
theorem placeLaw (a0 x y z t : Int) (w : World) (w0 : (Lit.int .u64 a0).wf = true) (w1 : (Lit.int .i64 x).wf = true) (w2 : (Lit.int .i64 y).wf = true) (w3 : (Lit.int .i64 z).wf = true) (w4 : (Lit.int .i64 t).wf = true) : Calls Try.prog 6 #[.int .u64 a0, .agg #[.int .i64 x, .int .i64 y, .int .i64 z], .int .i64 t] w fun e w' => e = .returned (.bool true) ∧ Below w.heap.size w w' := by
  clear w0 w1 w2 w3 w4
  go_enter Try.func6, Try.ntmps6
  go_wp2_with fail
  go_region_held3 (fun w' => Below w.heap.size w w' ∧ w'.cell? ⟨w.heap.size, 0, none⟩ = some (.int .i64 x) ∧ w'.cell? ⟨w.heap.size, 1, none⟩ = some (.int .i64 y) ∧ w'.cell? ⟨w.heap.size, 2, none⟩ = some (.int .i64 z))
    (first | exact ⟨(below_alloc (Below.refl _ _) _).drew, by go_keep⟩ | (go_split_ands; refine ⟨?_, ?_, ?_, ?_⟩ <;> first | assumption | (refine below_step ?_ hb; assumption) | (refine pw_cell_below hb ?_; assumption) | (refine pw_below_drewN ?_ _; assumption) | (go_keep; done)))
    (first | (go_at_call 14; refine (of_calls _ _ _ _ _ _).mono ?_; rintro e w' ⟨rfl, hb⟩) | (go_at_call 15; refine (refOf_calls _ _ _ _ _ _).mono ?_; rintro e w' ⟨rfl, hb⟩) | (go_at_call 11; refine (awake_calls _).mono ?_; rintro e w' ⟨rfl, ⟨nd, rfl⟩⟩))
  all_goals go_wp2
  all_goals go_ret
  all_goals exact ⟨by simp, by go_split_ands; assumption⟩
end Go.Proofs.Ytfogcdmibakhbaa.HW
