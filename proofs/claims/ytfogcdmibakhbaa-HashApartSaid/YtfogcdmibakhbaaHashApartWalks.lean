/- Walks for HashApart: one for each way through its switch. -/
import Derived.Test.YtfogcdmibakhbaaHashLaws
namespace Go.Proofs.Ytfogcdmibakhbaa.HW
open Go.RowKit Go.Proofs.YtfogcdmibakhbaaW.PrintWords Go.Proofs.YtfogcdmibakhbaaW.PrintLast Go.Proofs.YtfogcdmibakhbaaW.PrintMore
set_option linter.unusedVariables false
set_option linter.unusedSimpArgs false
theorem new_cell (W : World) (cs : Array Value) (t : TypeId) (g : Nat) (hg : W.heap.size = g) (i : Nat) : (W.alloc (.cells cs t)).cell? ⟨g, i, none⟩ = cs[i]? := by
  subst hg
  exact blk_cell (blk_new W _) i

set_option maxHeartbeats 1000000 in
set_option maxRecDepth 100000 in
theorem apart0 (x y px py pz now which : Int) (w : World) (hm0 : (bits .and .i64 which 7 == 0) = true)
    (hxy : (!(HP.mix x == HP.mix y) == (x == y)) = false) (s : Bool) (hs : (y == x) = s) (hd : (drawOf x px py pz now == drawOf y px py pz now) = s) :
    Calls Try.prog 8 #[.int .u64 x, .int .u64 y, .agg #[.int .i64 px, .int .i64 py, .int .i64 pz], .int .i64 now, .int .i64 which] w fun e w' => e = .returned (.bool true) ∧ Below w.heap.size w w' := by
  cases s
  all_goals
    go_enter Try.func8, Try.ntmps8
    go_wp2_with (first | (go_at_call 9; refine (mix_calls _ _).mono ?_; rintro e w' ⟨rfl, ⟨nd, rfl⟩⟩))
    go_region_held3 (fun w' => Below w.heap.size w w' ∧ w'.cell? ⟨w.heap.size, 0, none⟩ = some (.int .i64 px) ∧ w'.cell? ⟨w.heap.size, 1, none⟩ = some (.int .i64 py) ∧ w'.cell? ⟨w.heap.size, 2, none⟩ = some (.int .i64 pz) ∧
        w'.cell? ⟨w.heap.size + 1, 0, none⟩ = some (.int .i64 px) ∧ w'.cell? ⟨w.heap.size + 1, 1, none⟩ = some (.int .i64 py) ∧ w'.cell? ⟨w.heap.size + 1, 2, none⟩ = some (.int .i64 pz))
      (first | exact ⟨(below_alloc (pw_below_drewN (below_alloc (Below.refl _ _) _) _) _).drew, by go_keep, by go_keep, by go_keep, (new_cell _ _ _ _ (by simp) 0).trans rfl, (new_cell _ _ _ _ (by simp) 1).trans rfl, (new_cell _ _ _ _ (by simp) 2).trans rfl⟩ | (go_split_ands; refine ⟨?_, ?_, ?_, ?_, ?_, ?_, ?_⟩ <;> first | assumption | (refine below_step ?_ hb; assumption) | (refine pw_cell_below hb ?_; assumption) | (refine pw_below_drewN ?_ _; assumption) | (go_keep; done)))
      (first | (go_at_call 14; refine (of_calls _ _ _ _ _ _).mono ?_; rintro e w' ⟨rfl, hb⟩) | (go_at_call 11; refine (awake_calls _).mono ?_; rintro e w' ⟨rfl, ⟨nd, rfl⟩⟩))
    all_goals go_wp2
    all_goals go_ret
    all_goals exact ⟨by simp, by go_split_ands; assumption⟩

set_option maxHeartbeats 1000000 in
set_option maxRecDepth 100000 in
theorem apart1 (x y px py pz now which : Int) (w : World) (hm0 : (bits .and .i64 which 7 == 0) = false) (hm1 : (bits .and .i64 which 7 == 1) = true)
    (hxy : (!(HP.mix x == HP.mix y) == (x == y)) = false) (s : Bool) (hs : (wrap64 y == px) = s) (hd : (drawOf x px py pz now == drawOf x (wrap64 y) py pz now) = s) :
    Calls Try.prog 8 #[.int .u64 x, .int .u64 y, .agg #[.int .i64 px, .int .i64 py, .int .i64 pz], .int .i64 now, .int .i64 which] w fun e w' => e = .returned (.bool true) ∧ Below w.heap.size w w' := by
  cases s
  all_goals
    go_enter Try.func8, Try.ntmps8
    go_wp2_with (first | (go_at_call 9; refine (mix_calls _ _).mono ?_; rintro e w' ⟨rfl, ⟨nd, rfl⟩⟩))
    go_region_held3 (fun w' => Below w.heap.size w w' ∧ w'.cell? ⟨w.heap.size, 0, none⟩ = some (.int .i64 px) ∧ w'.cell? ⟨w.heap.size, 1, none⟩ = some (.int .i64 py) ∧ w'.cell? ⟨w.heap.size, 2, none⟩ = some (.int .i64 pz) ∧
        w'.cell? ⟨w.heap.size + 1, 0, none⟩ = some (.int .i64 (wrap64 y)) ∧ w'.cell? ⟨w.heap.size + 1, 1, none⟩ = some (.int .i64 py) ∧ w'.cell? ⟨w.heap.size + 1, 2, none⟩ = some (.int .i64 pz))
      (first | exact ⟨(below_alloc (pw_below_drewN (below_alloc (Below.refl _ _) _) _) _).drew, by go_keep, by go_keep, by go_keep, (new_cell _ _ _ _ (by simp) 0).trans rfl, (new_cell _ _ _ _ (by simp) 1).trans rfl, (new_cell _ _ _ _ (by simp) 2).trans rfl⟩ | (go_split_ands; refine ⟨?_, ?_, ?_, ?_, ?_, ?_, ?_⟩ <;> first | assumption | (refine below_step ?_ hb; assumption) | (refine pw_cell_below hb ?_; assumption) | (refine pw_below_drewN ?_ _; assumption) | (go_keep; done)))
      (first | (go_at_call 14; refine (of_calls _ _ _ _ _ _).mono ?_; rintro e w' ⟨rfl, hb⟩) | (go_at_call 11; refine (awake_calls _).mono ?_; rintro e w' ⟨rfl, ⟨nd, rfl⟩⟩))
    all_goals go_wp2
    all_goals go_ret
    all_goals exact ⟨by simp, by go_split_ands; assumption⟩

set_option maxHeartbeats 1000000 in
set_option maxRecDepth 100000 in
theorem apart2 (x y px py pz now which : Int) (w : World) (hm0 : (bits .and .i64 which 7 == 0) = false) (hm1 : (bits .and .i64 which 7 == 1) = false) (hm2 : (bits .and .i64 which 7 == 2) = true)
    (hxy : (!(HP.mix x == HP.mix y) == (x == y)) = false) (s : Bool) (hs : (wrap64 y == py) = s) (hd : (drawOf x px py pz now == drawOf x px (wrap64 y) pz now) = s) :
    Calls Try.prog 8 #[.int .u64 x, .int .u64 y, .agg #[.int .i64 px, .int .i64 py, .int .i64 pz], .int .i64 now, .int .i64 which] w fun e w' => e = .returned (.bool true) ∧ Below w.heap.size w w' := by
  cases s
  all_goals
    go_enter Try.func8, Try.ntmps8
    go_wp2_with (first | (go_at_call 9; refine (mix_calls _ _).mono ?_; rintro e w' ⟨rfl, ⟨nd, rfl⟩⟩))
    go_region_held3 (fun w' => Below w.heap.size w w' ∧ w'.cell? ⟨w.heap.size, 0, none⟩ = some (.int .i64 px) ∧ w'.cell? ⟨w.heap.size, 1, none⟩ = some (.int .i64 py) ∧ w'.cell? ⟨w.heap.size, 2, none⟩ = some (.int .i64 pz) ∧
        w'.cell? ⟨w.heap.size + 1, 0, none⟩ = some (.int .i64 px) ∧ w'.cell? ⟨w.heap.size + 1, 1, none⟩ = some (.int .i64 (wrap64 y)) ∧ w'.cell? ⟨w.heap.size + 1, 2, none⟩ = some (.int .i64 pz))
      (first | exact ⟨(below_alloc (pw_below_drewN (below_alloc (Below.refl _ _) _) _) _).drew, by go_keep, by go_keep, by go_keep, (new_cell _ _ _ _ (by simp) 0).trans rfl, (new_cell _ _ _ _ (by simp) 1).trans rfl, (new_cell _ _ _ _ (by simp) 2).trans rfl⟩ | (go_split_ands; refine ⟨?_, ?_, ?_, ?_, ?_, ?_, ?_⟩ <;> first | assumption | (refine below_step ?_ hb; assumption) | (refine pw_cell_below hb ?_; assumption) | (refine pw_below_drewN ?_ _; assumption) | (go_keep; done)))
      (first | (go_at_call 14; refine (of_calls _ _ _ _ _ _).mono ?_; rintro e w' ⟨rfl, hb⟩) | (go_at_call 11; refine (awake_calls _).mono ?_; rintro e w' ⟨rfl, ⟨nd, rfl⟩⟩))
    all_goals go_wp2
    all_goals go_ret
    all_goals exact ⟨by simp, by go_split_ands; assumption⟩

set_option maxHeartbeats 1000000 in
set_option maxRecDepth 100000 in
theorem apart3 (x y px py pz now which : Int) (w : World) (hm0 : (bits .and .i64 which 7 == 0) = false) (hm1 : (bits .and .i64 which 7 == 1) = false) (hm2 : (bits .and .i64 which 7 == 2) = false) (hm3 : (bits .and .i64 which 7 == 3) = true)
    (hxy : (!(HP.mix x == HP.mix y) == (x == y)) = false) (s : Bool) (hs : (wrap64 y == pz) = s) (hd : (drawOf x px py pz now == drawOf x px py (wrap64 y) now) = s) :
    Calls Try.prog 8 #[.int .u64 x, .int .u64 y, .agg #[.int .i64 px, .int .i64 py, .int .i64 pz], .int .i64 now, .int .i64 which] w fun e w' => e = .returned (.bool true) ∧ Below w.heap.size w w' := by
  cases s
  all_goals
    go_enter Try.func8, Try.ntmps8
    go_wp2_with (first | (go_at_call 9; refine (mix_calls _ _).mono ?_; rintro e w' ⟨rfl, ⟨nd, rfl⟩⟩))
    go_region_held3 (fun w' => Below w.heap.size w w' ∧ w'.cell? ⟨w.heap.size, 0, none⟩ = some (.int .i64 px) ∧ w'.cell? ⟨w.heap.size, 1, none⟩ = some (.int .i64 py) ∧ w'.cell? ⟨w.heap.size, 2, none⟩ = some (.int .i64 pz) ∧
        w'.cell? ⟨w.heap.size + 1, 0, none⟩ = some (.int .i64 px) ∧ w'.cell? ⟨w.heap.size + 1, 1, none⟩ = some (.int .i64 py) ∧ w'.cell? ⟨w.heap.size + 1, 2, none⟩ = some (.int .i64 (wrap64 y)))
      (first | exact ⟨(below_alloc (pw_below_drewN (below_alloc (Below.refl _ _) _) _) _).drew, by go_keep, by go_keep, by go_keep, (new_cell _ _ _ _ (by simp) 0).trans rfl, (new_cell _ _ _ _ (by simp) 1).trans rfl, (new_cell _ _ _ _ (by simp) 2).trans rfl⟩ | (go_split_ands; refine ⟨?_, ?_, ?_, ?_, ?_, ?_, ?_⟩ <;> first | assumption | (refine below_step ?_ hb; assumption) | (refine pw_cell_below hb ?_; assumption) | (refine pw_below_drewN ?_ _; assumption) | (go_keep; done)))
      (first | (go_at_call 14; refine (of_calls _ _ _ _ _ _).mono ?_; rintro e w' ⟨rfl, hb⟩) | (go_at_call 11; refine (awake_calls _).mono ?_; rintro e w' ⟨rfl, ⟨nd, rfl⟩⟩))
    all_goals go_wp2
    all_goals go_ret
    all_goals exact ⟨by simp, by go_split_ands; assumption⟩

set_option maxHeartbeats 1000000 in
set_option maxRecDepth 100000 in
theorem apart4 (x y px py pz now which : Int) (w : World) (hm0 : (bits .and .i64 which 7 == 0) = false) (hm1 : (bits .and .i64 which 7 == 1) = false) (hm2 : (bits .and .i64 which 7 == 2) = false) (hm3 : (bits .and .i64 which 7 == 3) = false)
    (hxy : (!(HP.mix x == HP.mix y) == (x == y)) = false) (s : Bool) (hs : (wrap64 y == now) = s) (hd : (drawOf x px py pz now == drawOf x px py pz (wrap64 y)) = s) :
    Calls Try.prog 8 #[.int .u64 x, .int .u64 y, .agg #[.int .i64 px, .int .i64 py, .int .i64 pz], .int .i64 now, .int .i64 which] w fun e w' => e = .returned (.bool true) ∧ Below w.heap.size w w' := by
  cases s
  all_goals
    go_enter Try.func8, Try.ntmps8
    go_wp2_with (first | (go_at_call 9; refine (mix_calls _ _).mono ?_; rintro e w' ⟨rfl, ⟨nd, rfl⟩⟩))
    go_region_held3 (fun w' => Below w.heap.size w w' ∧ w'.cell? ⟨w.heap.size, 0, none⟩ = some (.int .i64 px) ∧ w'.cell? ⟨w.heap.size, 1, none⟩ = some (.int .i64 py) ∧ w'.cell? ⟨w.heap.size, 2, none⟩ = some (.int .i64 pz) ∧
        w'.cell? ⟨w.heap.size + 1, 0, none⟩ = some (.int .i64 px) ∧ w'.cell? ⟨w.heap.size + 1, 1, none⟩ = some (.int .i64 py) ∧ w'.cell? ⟨w.heap.size + 1, 2, none⟩ = some (.int .i64 pz))
      (first | exact ⟨(below_alloc (pw_below_drewN (below_alloc (Below.refl _ _) _) _) _).drew, by go_keep, by go_keep, by go_keep, (new_cell _ _ _ _ (by simp) 0).trans rfl, (new_cell _ _ _ _ (by simp) 1).trans rfl, (new_cell _ _ _ _ (by simp) 2).trans rfl⟩ | (go_split_ands; refine ⟨?_, ?_, ?_, ?_, ?_, ?_, ?_⟩ <;> first | assumption | (refine below_step ?_ hb; assumption) | (refine pw_cell_below hb ?_; assumption) | (refine pw_below_drewN ?_ _; assumption) | (go_keep; done)))
      (first | (go_at_call 14; refine (of_calls _ _ _ _ _ _).mono ?_; rintro e w' ⟨rfl, hb⟩) | (go_at_call 11; refine (awake_calls _).mono ?_; rintro e w' ⟨rfl, ⟨nd, rfl⟩⟩))
    all_goals go_wp2
    all_goals go_ret
    all_goals exact ⟨by simp, by go_split_ands; assumption⟩
end Go.Proofs.Ytfogcdmibakhbaa.HW
