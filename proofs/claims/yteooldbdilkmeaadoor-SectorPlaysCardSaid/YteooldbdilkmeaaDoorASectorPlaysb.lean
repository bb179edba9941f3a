/- The own texts that the statement SectorPlays leans on: SecSame, SecArg, SecState, SecNo, SecPlays. -/
import Derived.Test.YteooldbdilkmeaaDoorASectorPlays
import Derived.Deep.Slices
import Derived.Deep.Fields
import Derived.ChangeSame
import Derived.DataShut
import Derived.RowKit
import Derived.ChangeSlices
import Derived.OpenShut
import Derived.Lib.SmallJoins
namespace Go.Proofs.YteooldbdilkmeaaDoor.SC
open Go.ChangeMaps Go.RowKit Go.Proofs.YteooldbdilkmeaaDoorW.PrintWords Go.Proofs.YteooldbdilkmeaaDoorW.PrintLast Go.Proofs.YteooldbdilkmeaaDoorW.PrintMore
set_option linter.unusedVariables false
set_option linter.unusedSimpArgs false
theorem reads_alike {W : World} {p M q n kept : Nat} {v v' : Value} {h : Hist} (H : DkAt W p M v n h kept) (Q : QAt W q v' n h kept) (hl : h.length ≤ 1000000) (a : Int) :
    ∃ (S : ByteArray) (z : Int), (∀ V, Below W.heap.size W V → Calls Tryd.prog 10 #[.pointer (some ⟨p, 0, none⟩), .int .i64 a] V fun e w' => e = .returned (.tuple #[.string S, .int .i64 z]) ∧ Below V.heap.size V w') ∧
      ∀ V, Below W.heap.size W V → Calls Tryd.prog 37 #[.pointer (some ⟨q, 0, none⟩), .int .i64 a] V fun e w' => e = .returned (.tuple #[.string S, .int .i64 z]) ∧ Below V.heap.size V w' := by
  by_cases ha : 0 ≤ a ∧ a < n
  · obtain ⟨i, rfl⟩ : ∃ i : Nat, a = (i : Int) := ⟨a.toNat, by omega⟩
    exact ⟨_, _, fun V hb => read_calls (H.below hb (Nat.le_refl _)) i (by omega), fun V hb => qread_calls (Q.below hb (Nat.le_refl _)) hl i (by omega)⟩
  · exact ⟨_, _, fun V hb => read_no (H.below hb (Nat.le_refl _)) a ha, fun V hb => qread_no (Q.below hb (Nat.le_refl _)) a ha⟩
set_option maxHeartbeats 4000000 in
set_option maxRecDepth 100000 in
theorem same_calls {W : World} {p M q n kept : Nat} {v v' : Value} {h : Hist} (H : DkAt W p M v n h kept) (Q : QAt W q v' n h kept) (hl : h.length ≤ 1000000) (a : Int) :
    Calls Tryd.prog 25 #[.pointer (some ⟨p, 0, none⟩), .pointer (some ⟨q, 0, none⟩), .int .i64 a] W fun e w' => e = .returned (.bool true) ∧ Below W.heap.size W w' := by
  obtain ⟨S, z, hr1, hr2⟩ := reads_alike H Q hl a
  have HR1 := Lib.hid hr1
  have HR2 := Lib.hid hr2
  have Hl := Lib.hid hl
  have HLn := Lib.hid (fun V (hb : Below W.heap.size W V) => len_calls (H.below hb (Nat.le_refl _)))
  have HWr := Lib.hid (fun V (hb : Below W.heap.size W V) => writes_calls (H.below hb (Nat.le_refl _)))
  have HQw := Lib.hid (fun V (hb : Below W.heap.size W V) => qwrites_calls (Q.below hb (Nat.le_refl _)) hl)
  have HUs := Lib.hid (fun V (hb : Below W.heap.size W V) => used_calls (H.below hb (Nat.le_refl _)))
  have HQu := Lib.hid (fun V (hb : Below W.heap.size W V) => qused_calls (Q.below hb (Nat.le_refl _)) hl)
  have HLg := Lib.hid (fun V (hb : Below W.heap.size W V) => log_calls (H.below hb (Nat.le_refl _)) hl)
  have HQl := Lib.hid (fun V (hb : Below W.heap.size W V) => qlog_calls (Q.below hb (Nat.le_refl _)) hl)
  have HQc : Hid (∀ V, Below W.heap.size W V → V.cell? ⟨q, 0, none⟩ = some (.int .i64 (n : Int))) := Lib.hid (fun V hb => (Q.below hb (Nat.le_refl _)).cells.1)
  have HLe : Hid ((usedI n (cont h)).length ≤ 131072) := Lib.hid (by have := usedI_le n (cont h); have := H.nn; omega)
  have HAt := Lib.hid (usedI_at n (cont h))
  have HLl : Hid ((logA (h.drop kept)).length ≤ 1000000) := Lib.hid (by rw [logA_length, List.length_drop]; omega)
  obtain ⟨x, hx⟩ : ∃ x, h.length - kept = x := ⟨_, rfl⟩
  obtain ⟨us, hus⟩ : ∃ us, usedI n (cont h) = us := ⟨_, rfl⟩
  obtain ⟨L, hL⟩ : ∃ L, us.length = L := ⟨_, rfl⟩
  obtain ⟨lg, hlg⟩ : ∃ lg, logA (h.drop kept) = lg := ⟨_, rfl⟩
  rw [hx] at HWr HQw
  rw [hus] at HUs HQu HLe HAt
  rw [hL] at HUs HQu HLe HAt
  rw [hlg] at HLg HQl HLl
  have hss : (S.toList != S.toList) = false := by simp
  have hss2 : (S.toList == S.toList) = true := by simp
  clear H Q hl hr1 hr2 hx hus hL hlg
  go_enter Tryd.func25, Tryd.ntmps25
  go_wp2_with fail
  refine (HR1.out _ (Below.refl _ _)).mono ?_; rintro e w1 ⟨rfl, hb1⟩
  have HB1 := Lib.hid hb1
  clear hb1
  go_wp2_with fail
  refine (HR2.out _ HB1.out).mono ?_; rintro e w2 ⟨rfl, hb2⟩
  have HB2 := Lib.hid (below_step HB1.out hb2)
  clear hb2
  go_upto_region 3 with fail
  refine start_ (n := 24) (S := fun w' => w'.cell? ⟨q, 0, none⟩ = some (.int .i64 (n : Int))) (ds := []) #[false, false, false, false, false, false, false, false, false, false, false, false, false, false, false, false, false, false, false, false, false, false, false, false] (by kernel_rfl) rfl rfl (HQc.out _ (below_drew HB2.out)) (fun hHeld => ?_)
  refine pure_ (i := 0) (N := some 28) (v := ?_) (a' := ?_) #[true, false, false, false, false, false, false, false, false, false, false, false, false, false, false, false, false, false, false, false, false, false, false, false] rfl rfl (by kernel_rfl) (fun _ _ _ h => h) (Or.inl ⟨by rfl, ?_⟩) ?_ ?_
  rotate_left
  · intro w'
    go_simp
    with_reducible rfl
  rotate_left
  · simp only [Act.put, List.setIfInBounds_toArray, List.set_cons_zero, List.set_cons_succ, i64_w, i32_w]
    rfl
  refine pure_ (i := 1) (N := some 29) (v := ?_) (a' := ?_) #[true, true, false, false, false, false, false, false, false, false, false, false, false, false, false, false, false, false, false, false, false, false, false, false] rfl rfl (by kernel_rfl) (fun _ _ _ h => h) (Or.inl ⟨by rfl, ?_⟩) ?_ ?_
  rotate_left
  · intro w'
    go_simp
    with_reducible rfl
  rotate_left
  · simp only [Act.put, List.setIfInBounds_toArray, List.set_cons_zero, List.set_cons_succ, i64_w, i32_w]
    rfl
  refine pure_ (i := 2) (N := some 30) (v := ?_) (a' := ?_) #[true, true, true, false, false, false, false, false, false, false, false, false, false, false, false, false, false, false, false, false, false, false, false, false] rfl rfl (by kernel_rfl) (fun _ _ _ h => h) (Or.inl ⟨by rfl, ?_⟩) ?_ ?_
  rotate_left
  · intro w'
    go_simp
    with_reducible rfl
  rotate_left
  · simp only [Act.put, List.setIfInBounds_toArray, List.set_cons_zero, List.set_cons_succ, i64_w, i32_w]
    rfl
  refine pure_ (i := 3) (N := some 31) (v := ?_) (a' := ?_) #[true, true, true, true, false, false, false, false, false, false, false, false, false, false, false, false, false, false, false, false, false, false, false, false] rfl rfl (by kernel_rfl) (fun _ _ _ h => h) (Or.inl ⟨by rfl, ?_⟩) ?_ ?_
  rotate_left
  · intro w'
    go_simp
    with_reducible rfl
  rotate_left
  · simp only [Act.put, List.setIfInBounds_toArray, List.set_cons_zero, List.set_cons_succ, i64_w, i32_w]
    rfl
  refine pure_ (i := 4) (N := some 32) (v := ?_) (a' := ?_) #[true, true, true, true, true, false, false, false, false, false, false, false, false, false, false, false, false, false, false, false, false, false, false, false] rfl rfl (by kernel_rfl) (fun _ _ _ h => h) (Or.inl ⟨by rfl, ?_⟩) ?_ ?_
  rotate_left
  · intro w'
    go_simp
    with_reducible rfl
  rotate_left
  · simp only [Act.put, List.setIfInBounds_toArray, List.set_cons_zero, List.set_cons_succ, i64_w, i32_w]
    rfl
  refine pure_ (i := 5) (N := some 33) (v := ?_) (a' := ?_) #[true, true, true, true, true, true, false, false, false, false, false, false, false, false, false, false, false, false, false, false, false, false, false, false] rfl rfl (by kernel_rfl) (fun _ _ _ h => h) (Or.inl ⟨by rfl, ?_⟩) ?_ ?_
  rotate_left
  · intro w'
    go_simp
    with_reducible rfl
  rotate_left
  · simp only [Act.put, List.setIfInBounds_toArray, List.set_cons_zero, List.set_cons_succ, i64_w, i32_w]
    rfl
  refine pure_ (i := 6) (N := some 34) (v := ?_) (a' := ?_) #[true, true, true, true, true, true, true, false, false, false, false, false, false, false, false, false, false, false, false, false, false, false, false, false] rfl rfl (by kernel_rfl) (fun _ _ _ h => h) (Or.inl ⟨by rfl, ?_⟩) ?_ ?_
  rotate_left
  · intro w'
    go_simp
    with_reducible rfl
  rotate_left
  · simp only [Act.put, List.setIfInBounds_toArray, List.set_cons_zero, List.set_cons_succ, i64_w, i32_w]
    rfl
  refine pure_ (i := 7) (N := some 35) (v := ?_) (a' := ?_) #[true, true, true, true, true, true, true, true, false, false, false, false, false, false, false, false, false, false, false, false, false, false, false, false] rfl rfl (by kernel_rfl) (fun _ _ _ h => h) (Or.inl ⟨by rfl, ?_⟩) ?_ ?_
  rotate_left
  · intro w'
    go_simp
    with_reducible rfl
  rotate_left
  · simp only [Act.put, List.setIfInBounds_toArray, List.set_cons_zero, List.set_cons_succ, i64_w, i32_w]
    rfl
  refine pure_ (i := 8) (N := some 36) (v := ?_) (a' := ?_) #[true, true, true, true, true, true, true, true, true, false, false, false, false, false, false, false, false, false, false, false, false, false, false, false] rfl rfl (by kernel_rfl) (fun _ _ _ h => h) (Or.inl ⟨by rfl, ?_⟩) ?_ ?_
  rotate_left
  · intro w'
    go_simp
    with_reducible rfl
  rotate_left
  · simp only [Act.put, List.setIfInBounds_toArray, List.set_cons_zero, List.set_cons_succ, i64_w, i32_w]
    rfl
  refine pure_ (i := 9) (N := some 37) (v := ?_) (a' := ?_) #[true, true, true, true, true, true, true, true, true, true, false, false, false, false, false, false, false, false, false, false, false, false, false, false] rfl rfl (by kernel_rfl) (fun _ _ _ h => h) (Or.inl ⟨by rfl, ?_⟩) ?_ ?_
  rotate_left
  · intro w'
    go_simp
    with_reducible rfl
  rotate_left
  · simp only [Act.put, List.setIfInBounds_toArray, List.set_cons_zero, List.set_cons_succ, i64_w, i32_w]
    rfl
  refine pure_ (i := 11) (N := some 39) (v := ?_) (a' := ?_) #[true, true, true, true, true, true, true, true, true, true, false, true, false, false, false, false, false, false, false, false, false, false, false, false] rfl rfl (by kernel_rfl) (fun _ _ _ h => h) (Or.inl ⟨by rfl, ?_⟩) ?_ ?_
  rotate_left
  · intro w'
    go_simp
    with_reducible rfl
  rotate_left
  · simp only [Act.put, List.setIfInBounds_toArray, List.set_cons_zero, List.set_cons_succ, i64_w, i32_w]
    rfl
  refine pure_ (i := 12) (N := some 40) (v := ?_) (a' := ?_) #[true, true, true, true, true, true, true, true, true, true, false, true, true, false, false, false, false, false, false, false, false, false, false, false] rfl rfl (by kernel_rfl) (fun _ _ _ h => h) (Or.inl ⟨by rfl, ?_⟩) ?_ ?_
  rotate_left
  · intro w'
    go_simp
    with_reducible rfl
  rotate_left
  · simp only [Act.put, List.setIfInBounds_toArray, List.set_cons_zero, List.set_cons_succ, i64_w, i32_w]
    rfl
  refine pure_ (i := 13) (N := some 41) (v := ?_) (a' := ?_) #[true, true, true, true, true, true, true, true, true, true, false, true, true, true, false, false, false, false, false, false, false, false, false, false] rfl rfl (by kernel_rfl) (fun _ _ _ h => h) (Or.inl ⟨by rfl, ?_⟩) ?_ ?_
  rotate_left
  · intro w'
    go_simp
    with_reducible rfl
  rotate_left
  · simp only [Act.put, List.setIfInBounds_toArray, List.set_cons_zero, List.set_cons_succ, i64_w, i32_w]
    rfl
  refine take_ (i := 14) (N := some 42) (v := ?_) (a' := ?_) #[true, true, true, true, true, true, true, true, true, true, false, true, true, true, true, false, false, false, false, false, false, false, false, false] rfl rfl (by kernel_rfl) (fun _ _ _ h => h) (Or.inl ⟨by rfl, ?_⟩) hHeld ?_ ?_
  rotate_left
  · intro w' s0
    go_simp
    with_reducible rfl
  rotate_left
  · simp only [Act.put, List.setIfInBounds_toArray, List.set_cons_zero, List.set_cons_succ, i64_w, i32_w]
    rfl
  refine one_ (i := 10) (N := some 38) #[true, true, true, true, true, true, true, true, true, true, true, true, true, true, true, false, false, false, false, false, false, false, false, false] rfl rfl (by kernel_rfl) (by decide) (fun K hK => ?_)
  refine goes_ Tryd.func27 (by kernel_rfl) rfl #[.pointer (some ⟨p, 0, none⟩)] (by rfl) rfl rfl (by simp only [List.map_toArray, List.map_cons, List.map_nil]; rfl) ?_
  with_reducible refine (HLn.out _ (below_drew HB2.out)).mono ?_
  rintro e wr10 ⟨rfl, hb10⟩
  refine ⟨_, rfl, ?_⟩
  have HB10 := Lib.hid (below_step (below_drew HB2.out) hb10)
  clear hb10
  have t10 := HQc.out _ HB10.out
  refine hK.out _ _ (t10) (fun hHeld => ?_)
  clear hK K
  refine norm_ (a' := ?_) ?_ ?_
  rotate_left
  · show Act.put _ (some 38) _ = _
    simp only [Act.put, List.setIfInBounds_toArray, List.set_cons_zero, List.set_cons_succ, i64_w, i32_w]
    rfl
  refine pure_ (i := 15) (N := some 43) (v := ?_) (a' := ?_) #[true, true, true, true, true, true, true, true, true, true, true, true, true, true, true, true, false, false, false, false, false, false, false, false] rfl rfl (by kernel_rfl) (fun _ _ _ h => h) (Or.inl ⟨by rfl, ?_⟩) ?_ ?_
  rotate_left
  · intro w'
    go_simp
    with_reducible rfl
  rotate_left
  · simp only [Act.put, List.setIfInBounds_toArray, List.set_cons_zero, List.set_cons_succ, i64_w, i32_w]
    rfl
  refine pure_ (i := 16) (N := some 44) (v := ?_) (a' := ?_) #[true, true, true, true, true, true, true, true, true, true, true, true, true, true, true, true, true, false, false, false, false, false, false, false] rfl rfl (by kernel_rfl) (fun _ _ _ h => h) (Or.inl ⟨by rfl, ?_⟩) ?_ ?_
  rotate_left
  · intro w'
    go_simp
    with_reducible rfl
  rotate_left
  · simp only [Act.put, List.setIfInBounds_toArray, List.set_cons_zero, List.set_cons_succ, i64_w, i32_w]
    rfl
  refine pure_ (i := 17) (N := some 45) (v := ?_) (a' := ?_) #[true, true, true, true, true, true, true, true, true, true, true, true, true, true, true, true, true, true, false, false, false, false, false, false] rfl rfl (by kernel_rfl) (fun _ _ _ h => h) (Or.inl ⟨by rfl, ?_⟩) ?_ ?_
  rotate_left
  · intro w'
    go_simp
    with_reducible rfl
  rotate_left
  · simp only [Act.put, List.setIfInBounds_toArray, List.set_cons_zero, List.set_cons_succ, i64_w, i32_w]
    rfl
  refine pure_ (i := 18) (N := some 46) (v := ?_) (a' := ?_) #[true, true, true, true, true, true, true, true, true, true, true, true, true, true, true, true, true, true, true, false, false, false, false, false] rfl rfl (by kernel_rfl) (fun _ _ _ h => h) (Or.inl ⟨by rfl, ?_⟩) ?_ ?_
  rotate_left
  · intro w'
    go_simp
    with_reducible rfl
  rotate_left
  · simp only [Act.put, List.setIfInBounds_toArray, List.set_cons_zero, List.set_cons_succ, i64_w, i32_w]
    rfl
  refine pure_ (i := 20) (N := some 48) (v := ?_) (a' := ?_) #[true, true, true, true, true, true, true, true, true, true, true, true, true, true, true, true, true, true, true, false, true, false, false, false] rfl rfl (by kernel_rfl) (fun _ _ _ h => h) (Or.inl ⟨by rfl, ?_⟩) ?_ ?_
  rotate_left
  · intro w'
    go_simp
    with_reducible rfl
  rotate_left
  · simp only [Act.put, List.setIfInBounds_toArray, List.set_cons_zero, List.set_cons_succ, i64_w, i32_w]
    rfl
  refine one_ (i := 19) (N := some 47) #[true, true, true, true, true, true, true, true, true, true, true, true, true, true, true, true, true, true, true, true, true, false, false, false] rfl rfl (by kernel_rfl) (by decide) (fun K hK => ?_)
  refine goes_ Tryd.func13 (by kernel_rfl) rfl #[.pointer (some ⟨p, 0, none⟩)] (by rfl) rfl rfl (by simp only [List.map_toArray, List.map_cons, List.map_nil]; rfl) ?_
  with_reducible refine (HWr.out _ HB10.out).mono ?_
  rintro e wr19 ⟨rfl, hb19⟩
  refine ⟨_, rfl, ?_⟩
  have HB19 := Lib.hid (below_step HB10.out hb19)
  clear hb19
  have t19 := HQc.out _ HB19.out
  refine hK.out _ _ (t19) (fun hHeld => ?_)
  clear hK K
  refine norm_ (a' := ?_) ?_ ?_
  rotate_left
  · show Act.put _ (some 47) _ = _
    simp only [Act.put, List.setIfInBounds_toArray, List.set_cons_zero, List.set_cons_succ, i64_w, i32_w]
    rfl
  refine one_ (i := 21) (N := some 49) #[true, true, true, true, true, true, true, true, true, true, true, true, true, true, true, true, true, true, true, true, true, true, false, false] rfl rfl (by kernel_rfl) (by decide) (fun K hK => ?_)
  refine goes_ Tryd.func36 (by kernel_rfl) rfl #[.pointer (some ⟨q, 0, none⟩)] (by rfl) rfl rfl (by simp only [List.map_toArray, List.map_cons, List.map_nil]; rfl) ?_
  with_reducible refine (HQw.out _ HB19.out).mono ?_
  rintro e wr21 ⟨rfl, hb21⟩
  refine ⟨_, rfl, ?_⟩
  have HB21 := Lib.hid (below_step HB19.out hb21)
  clear hb21
  have t21 := HQc.out _ HB21.out
  refine hK.out _ _ (t21) (fun hHeld => ?_)
  clear hK K
  refine norm_ (a' := ?_) ?_ ?_
  rotate_left
  · show Act.put _ (some 49) _ = _
    simp only [Act.put, List.setIfInBounds_toArray, List.set_cons_zero, List.set_cons_succ, i64_w, i32_w]
    rfl
  refine pure_ (i := 22) (N := some 50) (v := ?_) (a' := ?_) #[true, true, true, true, true, true, true, true, true, true, true, true, true, true, true, true, true, true, true, true, true, true, true, false] rfl rfl (by kernel_rfl) (fun _ _ _ h => h) (Or.inl ⟨by rfl, ?_⟩) ?_ ?_
  rotate_left
  · intro w'
    go_simp
    with_reducible rfl
  rotate_left
  · simp only [Act.put, List.setIfInBounds_toArray, List.set_cons_zero, List.set_cons_succ, i64_w, i32_w]
    rfl
  refine pure_ (i := 23) (N := some 51) (v := ?_) (a' := ?_) #[true, true, true, true, true, true, true, true, true, true, true, true, true, true, true, true, true, true, true, true, true, true, true, true] rfl rfl (by kernel_rfl) (fun _ _ _ h => h) (Or.inl ⟨by rfl, ?_⟩) ?_ ?_
  rotate_left
  · intro w'
    go_simp
    with_reducible rfl
  rotate_left
  · simp only [Act.put, List.setIfInBounds_toArray, List.set_cons_zero, List.set_cons_succ, i64_w, i32_w]
    rfl
  refine done_ (by kernel_rfl) ?_
  clear hHeld hss hss2
  have HB21' := Lib.hid HB21.out
  go_wp2_with fail
  refine (HUs.out _ HB21'.out).mono ?_; rintro e w3 ⟨u3, rfl, hu3, hb3⟩
  have HB3 := Lib.hid (below_step HB21'.out hb3)
  have HU3 := Lib.hid (own_weaken hu3 HB21'.out.size)
  clear hu3 hb3
  go_wp2_with fail
  refine (HQu.out _ HB3.out).mono ?_; rintro e w4 ⟨u4, rfl, hu4, hb4⟩
  have HB4 := Lib.hid (below_step HB3.out hb4)
  have HU4 := Lib.hid (own_weaken hu4 HB3.out.size)
  have HU34 := Lib.hid (pw_own_below HU3.out hb4)
  clear hu4 hb4 HU3
  obtain ⟨A3, c3, rfl⟩ := own_slice HU34.out
  obtain ⟨A4, c4, rfl⟩ := own_slice HU4.out
  go_wp2_with fail
  go_loopw [13] (fun iv V => ∃ (i : Nat), i ≤ L ∧ iv = .int .i64 (i : Int) ∧ Aside0 (V.ownsRow W.heap.size 3 1 (.slice A3 L c3) L (nums .i64 us)) ∧ Aside0 (V.ownsRow W.heap.size 3 1 (.slice A4 L c4) L (nums .i64 us)) ∧ Aside0 (Below W.heap.size W V)) (fun iv _ => L - (ixOf iv).toNat)
  case atStart => exact ⟨0, Nat.zero_le _, rfl, ⟨HU34.out⟩, ⟨HU4.out⟩, ⟨HB4.out⟩⟩
  case round =>
    obtain ⟨i, hi, rfl, ⟨hr3⟩, ⟨hr4⟩, ⟨hb⟩⟩ := hrel
    have HR3 := Lib.hid hr3
    have HR4 := Lib.hid hr4
    have HBi := Lib.hid hb
    clear hr3 hr4 hb HU34 HU4 HB4
    by_cases hlt : i < L
    · have hd := decide_eq_true (show (i : Int) < (L : Int) by omega)
      have hdn := decide_eq_true hlt
      obtain ⟨x, hx, hxn⟩ := HAt.out i hlt
      obtain ⟨G3, _, e3, _⟩ := HR3.out.form (by omega)
      obtain ⟨G4, _, e4, _⟩ := HR4.out.form (by omega)
      have e30 := (Value.slice.inj e3).1
      have e40 := (Value.slice.inj e4).1
      subst e30
      subst e40
      have q3 := (own_at HR3.out (i : Int) (by omega) (by omega)).1
      have q4 := (own_at HR4.out (i : Int) (by omega) (by omega)).1
      rw [Int.toNat_natCast, hx] at q3 q4
      have p1 : (0 ≤ (i : Int)) = True := eq_true (by omega)
      have p2 : ((i : Int) < (L : Int)) = True := eq_true (by omega)
      have hnx := nx_small (i := i) (by have := HLe.out; omega)
      have Hlt := Lib.hid hlt
      have Hnx := Lib.hid hnx
      clear e3 e4 hx hxn hlt hi hnx
      go_upto_region 11 with fail
      clear hd hdn
      refine start_ (n := 9) (S := fun w' => w'.cell? ⟨G3, i, none⟩ = some (.int .i64 (x : Int)) ∧ w'.cell? ⟨G4, i, none⟩ = some (.int .i64 (x : Int))) (ds := []) #[false, false, false, false, false, false, false, false, false] (by kernel_rfl) rfl rfl ⟨q3, q4⟩ (fun hHeld => ?_)
      refine pure_ (i := 0) (N := some 67) (v := ?_) (a' := ?_) #[true, false, false, false, false, false, false, false, false] rfl rfl (by kernel_rfl) (fun _ _ _ h => h) (Or.inl ⟨by rfl, ?_⟩) ?_ ?_
      rotate_left
      · intro w'
        go_simp
        with_reducible rfl
      rotate_left
      · simp only [Act.put, List.setIfInBounds_toArray, List.set_cons_zero, List.set_cons_succ, i64_w, i32_w]
        rfl
      refine pure_ (i := 1) (N := some 68) (v := ?_) (a' := ?_) #[true, true, false, false, false, false, false, false, false] rfl rfl (by kernel_rfl) (fun _ _ _ h => h) (Or.inl ⟨by rfl, ?_⟩) ?_ ?_
      rotate_left
      · intro w'
        go_simp
        with_reducible rfl
      rotate_left
      · simp only [Act.put, List.setIfInBounds_toArray, List.set_cons_zero, List.set_cons_succ, i64_w, i32_w]
        rfl
      refine pure_ (i := 2) (N := some 69) (v := ?_) (a' := ?_) #[true, true, true, false, false, false, false, false, false] rfl rfl (by kernel_rfl) (fun _ _ _ h => h) (Or.inl ⟨by rfl, ?_⟩) ?_ ?_
      rotate_left
      · intro w'
        go_simp
        with_reducible rfl
      rotate_left
      · simp only [Act.put, List.setIfInBounds_toArray, List.set_cons_zero, List.set_cons_succ, i64_w, i32_w]
        rfl
      refine pure_ (i := 4) (N := some 71) (v := ?_) (a' := ?_) #[true, true, true, false, true, false, false, false, false] rfl rfl (by kernel_rfl) (fun _ _ _ h => h) (Or.inl ⟨by rfl, ?_⟩) ?_ ?_
      rotate_left
      · intro w'
        go_simp
        with_reducible rfl
      rotate_left
      · simp only [Act.put, List.setIfInBounds_toArray, List.set_cons_zero, List.set_cons_succ, i64_w, i32_w]
        rfl
      refine pure_ (i := 5) (N := some 72) (v := ?_) (a' := ?_) #[true, true, true, false, true, true, false, false, false] rfl rfl (by kernel_rfl) (fun _ _ _ h => h) (Or.inl ⟨by rfl, ?_⟩) ?_ ?_
      rotate_left
      · intro w'
        go_simp
        with_reducible rfl
      rotate_left
      · simp only [Act.put, List.setIfInBounds_toArray, List.set_cons_zero, List.set_cons_succ, i64_w, i32_w]
        rfl
      refine pure_ (i := 6) (N := some 73) (v := ?_) (a' := ?_) #[true, true, true, false, true, true, true, false, false] rfl rfl (by kernel_rfl) (fun _ _ _ h => h) (Or.inl ⟨by rfl, ?_⟩) ?_ ?_
      rotate_left
      · intro w'
        go_simp
        with_reducible rfl
      rotate_left
      · simp only [Act.put, List.setIfInBounds_toArray, List.set_cons_zero, List.set_cons_succ, i64_w, i32_w]
        rfl
      refine take_ (i := 3) (N := some 70) (v := ?_) (a' := ?_) #[true, true, true, true, true, true, true, false, false] rfl rfl (by kernel_rfl) (fun _ _ _ h => h) (Or.inl ⟨by rfl, ?_⟩) hHeld ?_ ?_
      rotate_left
      · rintro w' ⟨s0, s1⟩
        go_simp
        with_reducible rfl
      rotate_left
      · simp only [Act.put, List.setIfInBounds_toArray, List.set_cons_zero, List.set_cons_succ, i64_w, i32_w]
        rfl
      refine take_ (i := 7) (N := some 74) (v := ?_) (a' := ?_) #[true, true, true, true, true, true, true, true, false] rfl rfl (by kernel_rfl) (fun _ _ _ h => h) (Or.inl ⟨by rfl, ?_⟩) hHeld ?_ ?_
      rotate_left
      · rintro w' ⟨s0, s1⟩
        go_simp
        with_reducible rfl
      rotate_left
      · simp only [Act.put, List.setIfInBounds_toArray, List.set_cons_zero, List.set_cons_succ, i64_w, i32_w]
        rfl
      refine pure_ (i := 8) (N := some 75) (v := ?_) (a' := ?_) #[true, true, true, true, true, true, true, true, true] rfl rfl (by kernel_rfl) (fun _ _ _ h => h) (Or.inl ⟨by rfl, ?_⟩) ?_ ?_
      rotate_left
      · intro w'
        go_simp
        with_reducible rfl
      rotate_left
      · simp only [Act.put, List.setIfInBounds_toArray, List.set_cons_zero, List.set_cons_succ, i64_w, i32_w]
        rfl
      refine done_ (by kernel_rfl) ?_
      clear hHeld q3 q4 p1 p2
      have hnx := Hnx.out
      go_wp2
      go_roundw
      case rel => exact ⟨i + 1, Hlt.out, by first | rfl | (rw [hnx]; rfl), ⟨HR3.out⟩, ⟨HR4.out⟩, ⟨by first | exact HBi.out | exact below_drew HBi.out⟩⟩
      case measure => have h1 := Hlt.out; first | (rw [hnx]; simp [ixOf, Go.RowKit.intOf]; omega) | (simp [ixOf, Go.RowKit.intOf]; omega)
    · obtain rfl : i = L := by omega
      have hd := decide_eq_false (show ¬ (i : Int) < (i : Int) by omega)
      clear hlt hi
      go_wp2_with fail
      refine (HLg.out _ HBi.out).mono ?_; rintro e w5 ⟨u5, rfl, hr5, hb5⟩
      have HB5 := Lib.hid (below_step HBi.out hb5)
      obtain ⟨A5, c5, rfl, _, hC5⟩ := Kd.R_reads hr5
      obtain ⟨N, hN⟩ : ∃ N, lg.length = N := ⟨_, rfl⟩
      have HN : Hid (N ≤ 1000000) := Lib.hid (by rw [← hN]; exact HLl.out)
      have HNe := Lib.hid hN
      rw [hN] at hC5
      rw [hN]
      have HC5 := Lib.hid hC5
      clear hr5 hb5 hC5 hN
      go_wp2_with fail
      refine (HQl.out _ HB5.out).mono ?_; rintro e w6 ⟨u6, rfl, hr6, hb6⟩
      have HB6 := Lib.hid (below_step HB5.out hb6)
      obtain ⟨A6, c6, rfl, _, hC6⟩ := Kd.R_reads hr6
      rw [HNe.out] at hC6
      rw [HNe.out]
      have HSm := Lib.hid (same20_calls (c1 := c5) (c2 := c6) (Kd.C_below HC5.out hb6) hC6 HN.out)
      clear hr6 hb6 hC6
      go_wp2_with fail
      refine HSm.out.mono ?_; rintro e w7 ⟨rfl, hb7⟩
      have HB7 := Lib.hid (below_step HB6.out hb7)
      clear hb7
      go_wp2
      go_ret
      exact ⟨rfl, HB7.out⟩
end Go.Proofs.YteooldbdilkmeaaDoor.SC

namespace Go.Proofs.YteooldbdilkmeaaDoor.SC
open Go.ChangeShapes Go.WideShapes Go.Deep Go.RowKit Go.Proofs.YteooldbdilkmeaaDoorW.PrintWords Go.Proofs.YteooldbdilkmeaaDoorW.PrintLast Go.Proofs.YteooldbdilkmeaaDoorW.PrintMore
set_option linter.unusedVariables false
set_option maxRecDepth 100000
set_option linter.unusedSimpArgs false
section
variable {H : Type} {enc : TypeId × Value → H} {P : Program} {w : World} {base : Nat} {spare : Nat → Bool} {held : Bool}
theorem elem_cells {e : TypeId} {fs : Array Field} {a : Addr} {cs : List Value} {x : DataW H × List MemPlace} {n : Nat} (he : P.underlying e = some (.struct fs)) (hone : oneCellFields P fs = true) (hC : P.cellsOf e = fs.size)
    (hc : w.cells? base a (P.cellsOf e) = some cs) (ht : DataW.trod enc P w base spare held n e cs = some x) (j : Nat) (f : Field) (hj : fs[j]? = some f) :
    ∃ (v : Value) (y : DataW H × List MemPlace) (m : Nat), w.cell? (a.add j) = some v ∧ DataW.trod enc P w base spare held m f.type [v] = some y := by
  obtain ⟨_, hl, hat⟩ := World.cells?_some hc
  obtain ⟨ys, m, _, _, hlen, hyl, hf⟩ := DataW.trod_struct he ht
  have hjl : j < fs.size := (Array.getElem?_eq_some_iff.1 hj).1
  have hjc : j < cs.length := by omega
  have hjy : j < ys.length := by omega
  obtain ⟨ho, hk⟩ := hone_of hone j f hj
  have h1 := hf j f hj
  rw [ho, hk] at h1
  have e1 : (cs.drop j).take 1 = [cs[j]] := by rw [List.drop_eq_getElem_cons hjc]; rfl
  exact ⟨cs[j], ys[j], m, (hat j (by omega)).trans (List.getElem?_eq_getElem hjc), by rw [← e1, h1]; exact List.getElem?_eq_getElem hjy⟩
theorem row_cellsF {t e : TypeId} {fs : Array Field} {v : Value} {x : DataW H × List MemPlace} {fuel : Nat} (ht : P.underlying t = some (.slice e)) (he : P.underlying e = some (.struct fs))
    (hone : oneCellFields P fs = true) (hC : P.cellsOf e = fs.size) (hf : DataW.trod enc P w base (fun _ => true) held fuel t [v] = some x) :
    (v = .slice none 0 0) ∨ ∃ (a : Addr) (len cap : Nat), v = .slice (some a) len cap ∧ len ≤ cap ∧ cap ≤ maxLen ∧
      ∀ i, i < len → ∀ (j : Nat) (f : Field), fs[j]? = some f → ∃ (u : Value) (y : DataW H × List MemPlace) (m : Nat), w.cell? (a.add (i * fs.size + j)) = some u ∧ DataW.trod enc P w base (fun _ => true) held m f.type [u] = some y := by
  rcases open_slice ht hf with ⟨hcs, _⟩ | ⟨a, len, cap, m, n, D, Pl, hcs, _, hl, hm, hmm, hx, hi⟩
  · left; simpa using hcs
  · right
    obtain rfl : v = .slice (some a) len cap := by simpa using hcs
    refine ⟨a, len, cap, rfl, hl, hm, fun i hil j f hj => ?_⟩
    obtain ⟨cs, hc, ht'⟩ := hi i (by rw [hmm]; simp; omega)
    obtain ⟨u, y, m', h1, h2⟩ := elem_cells he hone hC hc ht' j f hj
    refine ⟨u, y, m', ?_, h2⟩
    rw [← h1, Go.Deep.add_add, hC]
theorem row_cells {t e : TypeId} {fs : Array Field} {v : Value} {d : DataW H} {p : List MemPlace} {r : Reach} {b0 : Nat} (ht : P.underlying t = some (.slice e)) (he : P.underlying e = some (.struct fs))
    (hone : oneCellFields P fs = true) (hC : P.cellsOf e = fs.size) (hv : Value.okWide P w r b0 t v) (h : DataW.Trod enc P w base (fun _ => true) held t v d p) :
    (v = .slice none 0 0) ∨ ∃ (a : Addr) (len cap : Nat), v = .slice (some a) len cap ∧ len ≤ cap ∧ cap ≤ maxLen ∧
      ∀ i, i < len → ∀ (j : Nat) (f : Field), fs[j]? = some f → ∃ (u : Value) (y : DataW H × List MemPlace) (m : Nat), w.cell? (a.add (i * fs.size + j)) = some u ∧ DataW.trod enc P w base (fun _ => true) held m f.type [u] = some y := by
  obtain ⟨A, len, cap, rfl⟩ := okWide_slice ht hv
  obtain ⟨fuel, hf⟩ := h
  exact row_cellsF ht he hone hC (x := (d, p)) hf
end
theorem str_cell {H : Type} {enc : TypeId × Value → H} {w : World} {base : Nat} {sp : Nat → Bool} {held : Bool} {m : Nat} {u : Value} {y : DataW H × List MemPlace} (h : DataW.trod enc Tryd.prog w base sp held m 9 [u] = some y) : ∃ s : ByteArray, u = .string s ∧ s.size ≤ maxLen := by
  obtain ⟨s, hx, _, hs⟩ := DataW.trod_string Tryd.underlying9 h
  exact ⟨s, by simpa using hx, hs⟩
theorem int_cell {H : Type} {enc : TypeId × Value → H} {w : World} {base : Nat} {sp : Nat → Bool} {held : Bool} {m : Nat} {u : Value} {y : DataW H × List MemPlace} (h : DataW.trod enc Tryd.prog w base sp held m 3 [u] = some y) : ∃ a : Int, u = .int .i64 a ∧ (Lit.int .i64 a).wf = true := by
  obtain ⟨a, hx, _, hw⟩ := DataW.trod_int Tryd.underlying3 h
  exact ⟨a, by simpa using hx, hw⟩
abbrev Dc := Int × (Int × ByteArray)
def kD : Kd Dc := Kd.pair (Kd.int .i64) (Kd.pair (Kd.int .i64) Kd.string)
def dCells (x : Dc) : List Value := [.int .i64 x.1, .int .i64 x.2.1, .string x.2.2]
theorem open_doS {H : Type} {enc : TypeId × Value → H} {w : World} {base : Nat} {held : Bool} {r : Reach} {b0 : Nat} {v : Value} {d : DataW H} {p : List MemPlace}
    (hv : Value.okWide Tryd.prog w r b0 43 v) (h : DataW.Trod enc Tryd.prog w base (fun _ => true) held 43 v d p) :
    ∃ A n c l, v = .slice A n c ∧ n ≤ c ∧ n ≤ maxLen ∧ kD.C w A n l ∧ ∀ x ∈ l, ((Lit.int .i64 x.1).wf = true ∧ (Lit.int .i64 x.2.1).wf = true) ∧ x.2.2.size ≤ maxLen := by
  rcases row_cells Tryd.underlying43 Tryd.underlying48 (by kernel_rfl) (by kernel_rfl) hv h with rfl | ⟨a, len, cap, rfl, hl, hm, hi⟩
  · exact ⟨none, 0, 0, [], rfl, Nat.le_refl _, by decide, Kd.C_nil kD w, fun x hx => by cases hx⟩
  · have hex : ∀ i, i < len → ∃ x : Dc, w.cell? (a.add (i * 3 + 0)) = some (.int .i64 x.1) ∧ w.cell? (a.add (i * 3 + 1)) = some (.int .i64 x.2.1) ∧ w.cell? (a.add (i * 3 + 2)) = some (.string x.2.2) ∧ ((Lit.int .i64 x.1).wf = true ∧ (Lit.int .i64 x.2.1).wf = true) ∧ x.2.2.size ≤ maxLen := fun i hil => by
      obtain ⟨u0, y0, m0, c0, t0⟩ := hi i hil 0 _ rfl
      obtain ⟨u1, y1, m1, c1, t1⟩ := hi i hil 1 _ rfl
      obtain ⟨u2, y2, m2, c2, t2⟩ := hi i hil 2 _ rfl
      obtain ⟨a0, rfl, hw⟩ := int_cell t0
      obtain ⟨a1, rfl, hw1⟩ := int_cell t1
      obtain ⟨s0, rfl, hs⟩ := str_cell t2
      exact ⟨(a0, a1, s0), c0, c1, c2, ⟨hw, hw1⟩, hs⟩
    let l : List Dc := (List.range len).map fun i => if hil : i < len then (hex i hil).choose else (0, 0, E0)
    have hlat : ∀ i (hil : i < len) (x : Dc), l[i]? = some x → x = (hex i hil).choose := fun i hil x hx => by
      have : l[i]? = some (if hil : i < len then (hex i hil).choose else (0, 0, E0)) := by
        show ((List.range len).map _)[i]? = _
        rw [List.getElem?_map, List.getElem?_range hil]
        rfl
      rw [this, dif_pos hil] at hx
      injection hx with hx
      exact hx.symm
    have hll : l.length = len := by show ((List.range len).map _).length = len; simp
    refine ⟨some a, len, cap, l, rfl, hl, by omega, ⟨hll, by simp only [maxLen] at hm; omega, fun _ => ⟨a, rfl, fun j x hj => ?_⟩⟩, fun x hx => ?_⟩
    · have hjl : j < len := by have := (List.getElem?_eq_some_iff.1 hj).1; omega
      have hc := (hex j hjl).choose_spec
      rw [← hlat j hjl x hj] at hc
      refine ⟨dCells x, rfl, ⟨[.int .i64 x.1], [.int .i64 x.2.1, .string x.2.2], rfl, rfl, ⟨[.int .i64 x.2.1], [.string x.2.2], rfl, rfl, rfl⟩⟩, fun i u hu => ?_⟩
      match i, hu with
      | 0, hu => obtain rfl : _ = u := by simpa [dCells] using hu
                 exact hc.1
      | 1, hu => obtain rfl : _ = u := by simpa [dCells] using hu
                 exact hc.2.1
      | 2, hu => obtain rfl : _ = u := by simpa [dCells] using hu
                 exact hc.2.2.1
      | i + 3, hu => simp [dCells] at hu
    · obtain ⟨j, hj⟩ := List.getElem?_of_mem hx
      have hjl : j < len := by have := (List.getElem?_eq_some_iff.1 hj).1; omega
      have hc := (hex j hjl).choose_spec
      rw [← hlat j hjl x hj] at hc
      exact hc.2.2.2
end Go.Proofs.YteooldbdilkmeaaDoor.SC

namespace Go.Proofs.YteooldbdilkmeaaDoor.SC
open Go.ChangeMaps Go.RowKit Go.Proofs.YteooldbdilkmeaaDoorW.PrintWords Go.Proofs.YteooldbdilkmeaaDoorW.PrintLast Go.Proofs.YteooldbdilkmeaaDoorW.PrintMore
set_option linter.unusedVariables false
set_option linter.unusedSimpArgs false
theorem kD_open {w : World} {x : Dc} {cs : List Value} (h : kD.K w x cs) : cs = dCells x := by
  obtain ⟨c1, c2, rfl, h1, ⟨c3, c4, rfl, h3, h4⟩⟩ := h
  rw [h1, h3, h4]
  rfl
theorem ld_at {W : World} {A : Option Addr} {N : Nat} {l : List Dc} (h : kD.C W A N l) (i : Nat) (hi : i < N) : ∃ b o, A = some ⟨b, o, none⟩ ∧ W.cell? ⟨b, o + i * 3, none⟩ = some (.int .i64 (l.getD i (0, 0, E0)).1) ∧ W.cell? ⟨b, o + i * 3 + 1, none⟩ = some (.int .i64 (l.getD i (0, 0, E0)).2.1) ∧ W.cell? ⟨b, o + i * 3 + 2, none⟩ = some (.string (l.getD i (0, 0, E0)).2.2) := by
  obtain ⟨⟨b, o, sp⟩, cs, rfl, hcl, hK, hcell⟩ := Kd.C_get h (0, 0, E0) (i : Int) (by omega) (by omega)
  obtain rfl := kD_open hK
  obtain ⟨ad0, cs0, had, _, hK0, hcell0⟩ := Kd.C_get h (0, 0, E0) ((0 : Nat) : Int) (by omega) (by omega)
  obtain rfl := kD_open hK0
  injection had with had
  subst had
  obtain rfl : sp = none := by
    have := World.cell?_spot (hcell0 0 _ rfl)
    simpa [Addr.add] using this
  have h0 := hcell 0 _ rfl
  have h1 := hcell 1 _ rfl
  have h2 := hcell 2 _ rfl
  rw [Int.toNat_natCast] at h0 h1 h2
  rw [Addr.add_mid] at h0 h1 h2
  exact ⟨b, o, rfl, h0, h1, h2⟩
structure SS (b V : World) (p M : Nat) (v : Value) (n q : Nat) (v' : Value) (h : Hist) (kept : Nat) : Prop where
  d : DkAt V p M v n h kept
  r : QAt V q v' n h kept
  below : Below b.heap.size b V
  lo : b.heap.size ≤ p ∧ b.heap.size ≤ M ∧ b.heap.size ≤ q
  lov : ∀ k, v.ownBlock = some k → b.heap.size ≤ k
  low : ∀ k, v'.ownBlock = some k → b.heap.size ≤ k
theorem SS.under {b V V' : World} {p M n q kept : Nat} {v v' : Value} {h : Hist} (S : SS b V p M v n q v' h kept) (hb : Below V.heap.size V V') : SS b V' p M v n q v' h kept :=
  ⟨S.d.below hb (Nat.le_refl _), S.r.below hb (Nat.le_refl _), below_step S.below hb, S.lo, S.lov, S.low⟩
theorem SS.drew {b V : World} {p M n q kept : Nat} {v v' : Value} {h : Hist} (S : SS b V p M v n q v' h kept) : SS b V.drew p M v n q v' h kept := S.under (below_drew (Below.refl _ _))
def XAt (V : World) (X : Nat) (cs : Array Value) : Prop := V.heap[X]? = some (.cells cs 48 (0, 0))
theorem XAt.below {V V' : World} {X : Nat} {cs : Array Value} (h : XAt V X cs) (hb : Below V.heap.size V V') : XAt V' X cs := blk_below h hb
theorem XAt.drew {V : World} {X : Nat} {cs : Array Value} (h : XAt V X cs) : XAt V.drew X cs := h
theorem XAt.onlyD {V V' : World} {X : Nat} {cs : Array Value} (hx : XAt V X cs) {p M n kept : Nat} {v : Value} {h : Hist} (H : DkAt V p M v n h kept) (o : OnlyD p M v V V') : XAt V' X cs := by
  obtain ⟨es, ck, hM⟩ := H.map_blk
  refine (o.block X (blk_lt hx) (typed_ne hx H.blk (by decide)) (fun e => map_ne hM hx e.symm) fun e => ?_).trans hx
  obtain ⟨c, hc⟩ := H.own X e.symm
  exact typed_ne hx hc (by decide) rfl
theorem XAt.onlyQ {V V' : World} {X : Nat} {cs : Array Value} (hx : XAt V X cs) {q n kept : Nat} {v : Value} {h : Hist} (H : QAt V q v n h kept) (o : OnlyQ q v V V') : XAt V' X cs := by
  refine (o.block X (blk_lt hx) (typed_ne hx H.blk (by decide)) fun e => ?_).trans hx
  obtain ⟨c, hc⟩ := H.own X e.symm
  exact typed_ne hx hc (by decide) rfl
theorem SS.onD {b V V1 : World} {p M n q kept kept1 : Nat} {v v' v1 : Value} {h h1 : Hist} (S : SS b V p M v n q v' h kept) (H : DkAt V1 p M v1 n h1 kept1) (hm : Moved V v v1) (o : OnlyD p M v V V1) :
    QAt V1 q v' n h kept ∧ Below b.heap.size b V1 ∧ ∀ k, v1.ownBlock = some k → b.heap.size ≤ k := by
  refine ⟨S.r.onlyD S.d o, OnlyD.below S.below o S.below.size S.lo.1 S.lo.2.1 S.lov, fun k hk => ?_⟩
  rcases hm with hm | hm
  · exact S.lov k (hm ▸ hk)
  · have := hm k hk; have := S.below.size; omega
theorem SS.both {b V V1 V2 : World} {p M n q kept kept1 : Nat} {v v' v1 v2 : Value} {h h1 : Hist} (S : SS b V p M v n q v' h kept) (H : DkAt V1 p M v1 n h1 kept1) (hm : Moved V v v1) (o : OnlyD p M v V V1)
    (Q : QAt V2 q v2 n h1 kept1) (hm2 : Moved V1 v' v2) (o2 : OnlyQ q v' V1 V2) : SS b V2 p M v1 n q v2 h1 kept1 := by
  obtain ⟨q1, b1, l1⟩ := S.onD H hm o
  refine ⟨H.onlyQ q1 o2, Q, OnlyQ.below b1 o2 b1.size S.lo.2.2 S.low, S.lo, l1, fun k hk => ?_⟩
  rcases hm2 with hm2 | hm2
  · exact S.low k (hm2 ▸ hk)
  · have := hm2 k hk; have := b1.size; omega
end Go.Proofs.YteooldbdilkmeaaDoor.SC

namespace Go.Proofs.YteooldbdilkmeaaDoor.SC
open Go.RowKit Go.Maps Go.Proofs.YteooldbdilkmeaaDoorW.PrintWords Go.Proofs.YteooldbdilkmeaaDoorW.PrintLast Go.Proofs.YteooldbdilkmeaaDoorW.PrintMore
set_option linter.unusedVariables false
set_option linter.unusedSimpArgs false
theorem dnil_eq (W : World) : (binOp .eql 23 (.pointer none) (.pointer none)).run Tryd.prog W = .ok (.bool true) W := by go_simp
def Empty (W : World) (g : Nat) : Prop := W.heap[g]? = some (.cells #[.int .i64 0, .map none, .slice none 0 0] 58 (0, 0))
theorem Empty.below {W V : World} {g : Nat} (h : Empty W g) (hb : Below W.heap.size W V) : Empty V g := blk_below h hb
end Go.Proofs.YteooldbdilkmeaaDoor.SC

namespace Go.Proofs.YteooldbdilkmeaaDoor.SC
open Go.ChangeMaps Go.RowKit Go.Proofs.YteooldbdilkmeaaDoorW.PrintWords Go.Proofs.YteooldbdilkmeaaDoorW.PrintLast Go.Proofs.YteooldbdilkmeaaDoorW.PrintMore
set_option linter.unusedVariables false
set_option linter.unusedSimpArgs false
theorem moved_nil (w : World) (v : Value) : Moved w v (.slice none 0 0) := .inr fun k hk => by cases hk
set_option maxHeartbeats 8000000 in
set_option maxRecDepth 100000 in
theorem playsLaw (n : Int) (A : Option Addr) (N cap : Nat) (l : List Dc) (W : World) (hC : kD.C W A N l) (hN : N ≤ cap) :
    Calls Tryd.prog 7 #[.int .i64 n, .slice A N cap] W fun e w' => e = .returned (.bool true) ∧ Below W.heap.size W w' := by
  have HCl := Lib.hid hC
  have HW := Lib.hid works20
  clear hC hN
  by_cases hn : n < 256 ∨ 131072 < n
  · have H1 := Lib.hid (fun V => new_no n hn V)
    have H2 := Lib.hid (fun V => qnew_no n hn V)
    have hpn := dnil_eq
    clear hn
    go_enter Tryd.func7, Tryd.ntmps7
    go_wp2_with fail
    refine (H1.out _).mono ?_; rintro e w1 ⟨rfl, hb1⟩
    have HB1 := Lib.hid hb1
    clear hb1
    go_wp2_with fail
    refine (H2.out _).mono ?_; rintro e w2 ⟨rfl, hb2⟩
    have HB2 := Lib.hid (below_step HB1.out hb2)
    clear hb2
    go_wp2_with fail
    refine (HW.out _).mono ?_; rintro e w3 ⟨rfl, hb3⟩
    have HB3 := Lib.hid (below_step HB2.out hb3)
    clear hb3
    go_wp2
    go_ret
    exact ⟨rfl, HB3.out⟩
  · obtain ⟨n, rfl⟩ : ∃ m : Nat, n = (m : Int) := ⟨n.toNat, by omega⟩
    have hnn : 256 ≤ n ∧ n ≤ 131072 := by omega
    have H1 := Lib.hid (fun V => new_calls n hnn V)
    have H2 := Lib.hid (fun V => qnew_calls n hnn V)
    clear hn hnn
    go_enter Tryd.func7, Tryd.ntmps7
    go_wp2_with fail
    refine (H1.out _).mono ?_; rintro e w1 ⟨rfl, hd1, hb1⟩
    have HD1 := Lib.hid hd1
    have HB1 := Lib.hid hb1
    clear hb1 hd1 H1
    go_wp2_with fail
    refine (H2.out _).mono ?_; rintro e w2 ⟨rfl, hq2, hb2⟩
    have HS2 : Hid (SS W w2 (W.heap.size + 1) W.heap.size (.slice none 0 0) n w1.heap.size (.slice none 0 0) [] 0) := Lib.hid ⟨HD1.out.below hb2 (Nat.le_refl _), hq2, below_step HB1.out hb2, by have := HB1.out.size; omega, fun k hk => (by cases hk), fun k hk => (by cases hk)⟩
    obtain ⟨p, hp⟩ : ∃ p, W.heap.size + 1 = p := ⟨_, rfl⟩
    obtain ⟨M, hM⟩ : ∃ M, W.heap.size = M := ⟨_, rfl⟩
    obtain ⟨q, hq⟩ : ∃ q, w1.heap.size = q := ⟨_, rfl⟩
    rw [hp, hM, hq] at HS2
    rw [hp, hq]
    clear hp hM hq hq2 hb2 H2 HD1 HB1
    go_wp2_with fail
    go_loopw [9, 5, 7] (fun iv dv qv V => ∃ (i p M : Nat) (v : Value) (q : Nat) (v' : Value) (h : Hist) (kept : Nat), i ≤ 60 ∧ h.length ≤ i ∧ iv = .int .i64 (i : Int) ∧ dv = .pointer (some ⟨p, 0, none⟩) ∧ qv = .pointer (some ⟨q, 0, none⟩) ∧ Aside0 (SS W V p M v n q v' h kept)) (fun iv _ _ _ => 60 - (ixOf iv).toNat)
    case atStart => exact ⟨0, p, M, .slice none 0 0, q, .slice none 0 0, [], 0, by omega, Nat.le_refl _, rfl, rfl, rfl, ⟨HS2.out⟩⟩
    case round =>
      obtain ⟨i, p, M, v, q, v', h, kept, hi, hhl, rfl, rfl, rfl, ⟨hs⟩⟩ := hrel
      have HSi := Lib.hid hs
      have Hhl := Lib.hid hhl
      clear hs HS2 hhl
      by_cases hlt : i < N ∧ i < 60
      · have hd := decide_eq_true (show (i : Int) < (N : Int) by omega)
        have hdn := decide_eq_true hlt.1
        have hd2 := decide_eq_true (show (i : Int) < 60 by omega)
        have hd2n := decide_eq_true hlt.2
        have Hlt := Lib.hid hlt
        obtain ⟨bb, oo, rfl, x0, x1, x2⟩ := ld_at (Kd.C_below HCl.out HSi.out.below) i hlt.1
        obtain ⟨wh, hwh⟩ : ∃ z, (l.getD i (0, 0, E0)).1 = z := ⟨_, rfl⟩
        obtain ⟨xa, hxa⟩ : ∃ z, (l.getD i (0, 0, E0)).2.1 = z := ⟨_, rfl⟩
        obtain ⟨s0, hs0⟩ : ∃ z, (l.getD i (0, 0, E0)).2.2 = z := ⟨_, rfl⟩
        rw [hwh] at x0
        rw [hxa] at x1
        rw [hs0] at x2
        have p1 : (0 ≤ (i : Int)) = True := eq_true (by omega)
        have p2 : ((i : Int) < (N : Int)) = True := eq_true (by omega)
        have hnx := nx_small (i := i) (by omega)
        have Hnx := Lib.hid hnx
        have HL1 : Hid (h.length ≤ 1000000) := Lib.hid (by have := Hhl.out; omega)
        clear hwh hxa hs0 hlt hi hnx
        go_upto_region 11 with fail
        have HX : Hid (XAt (wr.alloc (.cells #[.int .i64 wh, .int .i64 xa, .string s0] 48)) wr.heap.size #[.int .i64 wh, .int .i64 xa, .string s0]) := Lib.hid (blk_new wr _)
        have HQ := Lib.hid (HSi.out.under (below_alloc (Below.refl _ _) (.cells #[.int .i64 wh, .int .i64 xa, .string s0] 48)))
        obtain ⟨X, hX⟩ : ∃ X, wr.heap.size = X := ⟨_, rfl⟩
        obtain ⟨V1, hV1⟩ : ∃ V, wr.alloc (.cells #[.int .i64 wh, .int .i64 xa, .string s0] 48) = V := ⟨_, rfl⟩
        rw [hV1] at HX HQ
        rw [hX] at HX
        rw [hV1, hX]
        clear hX hV1 x0 x1 x2 p1 p2 hd hdn hd2 hd2n HSi
        have x0 := blk_cell HX.out 0
        have x2 := blk_cell HX.out 2
        simp only [List.getElem?_toArray, List.getElem?_cons_succ, List.getElem?_cons_zero] at x0 x2
        obtain ⟨t, ht⟩ : ∃ t, min s0.size 600 = t := ⟨_, rfl⟩
        have hmin : min (s0.size : Int) 600 = (t : Int) := by omega
        have p1 : (0 ≤ (t : Int)) = True := eq_true (by omega)
        have p2 : ((t : Int) ≤ (s0.size : Int)) = True := eq_true (by omega)
        obtain ⟨s, hs⟩ : ∃ s, s0.extract 0 t = s := ⟨_, rfl⟩
        have hsl : ∀ V, (Instr.slice 9 (.string s0) none (some (.int .i64 (t : Int))) none).run Tryd.prog V = .ok (.string s) V := fun V => by
          rw [run_slice_string_h V 9 s0 Tryd.underlying9 .i64 (t : Int) (by omega) (by omega), Int.toNat_natCast, hs]
        obtain ⟨m5, hm5⟩ : ∃ q, Int.tmod wh 5 = q := ⟨_, rfl⟩
        clear ht hs
        go_upto_block 2 with fail
        clear x0 x2 hmin p1 p2 hsl hm5
        go_cut [5, 7] (fun dv qv V => ∃ (p M : Nat) (v : Value) (q : Nat) (v' : Value) (h : Hist) (kept : Nat), h.length ≤ i + 1 ∧ dv = .pointer (some ⟨p, 0, none⟩) ∧ qv = .pointer (some ⟨q, 0, none⟩) ∧ Aside0 (SS W V p M v n q v' h kept) ∧ Aside0 (XAt V X #[.int .i64 wh, .int .i64 xa, .string s0]))
        case first =>
          have x1 := blk_cell HX.out 1
          simp only [List.getElem?_toArray, List.getElem?_cons_succ, List.getElem?_cons_zero] at x1
          by_cases q0 : m5 = 0
          · have e0 : (m5 == 0) = true := by simp [q0]
            clear q0
            have HWd := Lib.hid (write_any HQ.out.drew.d (xa, s) HL1.out)
            obtain ⟨z, hz⟩ : ∃ z, wcode n (xa, s) = z := ⟨_, rfl⟩
            have Hz := Lib.hid hz
            rw [hz] at HWd
            have hzz : (z == z) = true := by simp
            have hzn : (z != z) = false := by simp
            have HLs : Hid ((stepH n h (xa, s)).length ≤ i + 1) := Lib.hid (by have := (stepH_len n h (xa, s)).2; have := Hhl.out; omega)
            clear hz
            go_upto_region 18 with fail
            refine start_ (n := 12) (S := fun w' => w'.cell? ⟨X, 1, none⟩ = some (.int .i64 xa)) (ds := []) #[false, false, false, false, false, false, false, false, false, false, false, false] (by kernel_rfl) rfl rfl (x1) (fun hHeld => ?_)
            refine pure_ (i := 0) (N := some 72) (v := ?_) (a' := ?_) #[true, false, false, false, false, false, false, false, false, false, false, false] rfl rfl (by kernel_rfl) (fun _ _ _ h => h) (Or.inl ⟨by rfl, ?_⟩) ?_ ?_
            rotate_left
            · intro w'
              go_simp
              with_reducible rfl
            rotate_left
            · simp only [Act.put, List.setIfInBounds_toArray, List.set_cons_zero, List.set_cons_succ, i64_w, i32_w]
              rfl
            refine pure_ (i := 1) (N := some 73) (v := ?_) (a' := ?_) #[true, true, false, false, false, false, false, false, false, false, false, false] rfl rfl (by kernel_rfl) (fun _ _ _ h => h) (Or.inl ⟨by rfl, ?_⟩) ?_ ?_
            rotate_left
            · intro w'
              go_simp
              with_reducible rfl
            rotate_left
            · simp only [Act.put, List.setIfInBounds_toArray, List.set_cons_zero, List.set_cons_succ, i64_w, i32_w]
              rfl
            refine pure_ (i := 3) (N := some 75) (v := ?_) (a' := ?_) #[true, true, false, true, false, false, false, false, false, false, false, false] rfl rfl (by kernel_rfl) (fun _ _ _ h => h) (Or.inl ⟨by rfl, ?_⟩) ?_ ?_
            rotate_left
            · intro w'
              go_simp
              with_reducible rfl
            rotate_left
            · simp only [Act.put, List.setIfInBounds_toArray, List.set_cons_zero, List.set_cons_succ, i64_w, i32_w]
              rfl
            refine pure_ (i := 5) (N := some 77) (v := ?_) (a' := ?_) #[true, true, false, true, false, true, false, false, false, false, false, false] rfl rfl (by kernel_rfl) (fun _ _ _ h => h) (Or.inl ⟨by rfl, ?_⟩) ?_ ?_
            rotate_left
            · intro w'
              go_simp
              with_reducible rfl
            rotate_left
            · simp only [Act.put, List.setIfInBounds_toArray, List.set_cons_zero, List.set_cons_succ, i64_w, i32_w]
              rfl
            refine pure_ (i := 6) (N := some 78) (v := ?_) (a' := ?_) #[true, true, false, true, false, true, true, false, false, false, false, false] rfl rfl (by kernel_rfl) (fun _ _ _ h => h) (Or.inl ⟨by rfl, ?_⟩) ?_ ?_
            rotate_left
            · intro w'
              go_simp
              with_reducible rfl
            rotate_left
            · simp only [Act.put, List.setIfInBounds_toArray, List.set_cons_zero, List.set_cons_succ, i64_w, i32_w]
              rfl
            refine pure_ (i := 8) (N := some 80) (v := ?_) (a' := ?_) #[true, true, false, true, false, true, true, false, true, false, false, false] rfl rfl (by kernel_rfl) (fun _ _ _ h => h) (Or.inl ⟨by rfl, ?_⟩) ?_ ?_
            rotate_left
            · intro w'
              go_simp
              with_reducible rfl
            rotate_left
            · simp only [Act.put, List.setIfInBounds_toArray, List.set_cons_zero, List.set_cons_succ, i64_w, i32_w]
              rfl
            refine take_ (i := 2) (N := some 74) (v := ?_) (a' := ?_) #[true, true, true, true, false, true, true, false, true, false, false, false] rfl rfl (by kernel_rfl) (fun _ _ _ h => h) (Or.inl ⟨by rfl, ?_⟩) hHeld ?_ ?_
            rotate_left
            · intro w' s0
              go_simp
              with_reducible rfl
            rotate_left
            · simp only [Act.put, List.setIfInBounds_toArray, List.set_cons_zero, List.set_cons_succ, i64_w, i32_w]
              rfl
            refine take_ (i := 7) (N := some 79) (v := ?_) (a' := ?_) #[true, true, true, true, false, true, true, true, true, false, false, false] rfl rfl (by kernel_rfl) (fun _ _ _ h => h) (Or.inl ⟨by rfl, ?_⟩) hHeld ?_ ?_
            rotate_left
            · intro w' s0
              go_simp
              with_reducible rfl
            rotate_left
            · simp only [Act.put, List.setIfInBounds_toArray, List.set_cons_zero, List.set_cons_succ, i64_w, i32_w]
              rfl
            refine one_ (i := 4) (N := some 76) #[true, true, true, true, true, true, true, true, true, false, false, false] rfl rfl (by kernel_rfl) (by decide) (fun K hK => ?_)
            refine goes_ Tryd.func12 (by kernel_rfl) rfl #[.pointer (some ⟨p, 0, none⟩), .int .i64 xa, .string s] (by rfl) rfl rfl (by simp only [List.map_toArray, List.map_cons, List.map_nil]; rfl) ?_
            with_reducible refine (HWd.out).mono ?_
            rintro e w5 ⟨rfl, ⟨v5, hd5, hm5⟩, ho5⟩
            refine ⟨_, rfl, ?_⟩
            have HX5 := Lib.hid (XAt.onlyD (XAt.drew HX.out) HQ.out.drew.d ho5)
            have HQ5 := Lib.hid (HQ.out.drew.onD hd5 hm5 ho5).1
            have HD5 := Lib.hid hd5
            have HM5 := Lib.hid hm5
            have HO5 := Lib.hid ho5
            have HWq := Lib.hid (qwrite_any HQ5.out (xa, s) HL1.out)
            rw [Hz.out] at HWq
            clear hd5 hm5 ho5 HWd
            have t5 := blk_cell HX5.out 1
            simp only [List.getElem?_toArray, List.getElem?_cons_succ, List.getElem?_cons_zero] at t5
            refine hK.out _ _ (t5) (fun hHeld => ?_)
            clear hK K
            refine norm_ (a' := ?_) ?_ ?_
            rotate_left
            · show Act.put _ (some 76) _ = _
              simp only [Act.put, List.setIfInBounds_toArray, List.set_cons_zero, List.set_cons_succ, i64_w, i32_w]
              rfl
            refine one_ (i := 9) (N := some 81) #[true, true, true, true, true, true, true, true, true, true, false, false] rfl rfl (by kernel_rfl) (by decide) (fun K hK => ?_)
            refine goes_ Tryd.func20 (by kernel_rfl) rfl #[.pointer (some ⟨q, 0, none⟩), .int .i64 xa, .string s] (by rfl) rfl rfl (by simp only [List.map_toArray, List.map_cons, List.map_nil]; rfl) ?_
            with_reducible refine (HWq.out).mono ?_
            rintro e w6 ⟨rfl, ⟨v6, hq6, hm6⟩, ho6⟩
            refine ⟨_, rfl, ?_⟩
            have HS6 := Lib.hid (HQ.out.drew.both HD5.out HM5.out HO5.out hq6 hm6 ho6)
            have HX6 := Lib.hid (XAt.onlyQ HX5.out HQ5.out ho6)
            clear hq6 hm6 ho6 HWq
            have t6 := blk_cell HX6.out 1
            simp only [List.getElem?_toArray, List.getElem?_cons_succ, List.getElem?_cons_zero] at t6
            refine hK.out _ _ (t6) (fun hHeld => ?_)
            clear hK K
            refine norm_ (a' := ?_) ?_ ?_
            rotate_left
            · show Act.put _ (some 81) _ = _
              simp only [Act.put, List.setIfInBounds_toArray, List.set_cons_zero, List.set_cons_succ, i64_w, i32_w]
              rfl
            refine pure_ (i := 10) (N := some 12) (v := ?_) (a' := ?_) #[true, true, true, true, true, true, true, true, true, true, true, false] rfl rfl (by kernel_rfl) (fun _ _ _ h => h) (Or.inl ⟨by rfl, ?_⟩) ?_ ?_
            rotate_left
            · intro w'
              go_simp
              with_reducible rfl
            rotate_left
            · simp only [Act.put, List.setIfInBounds_toArray, List.set_cons_zero, List.set_cons_succ, i64_w, i32_w]
              rfl
            refine pure_ (i := 11) (N := some 13) (v := ?_) (a' := ?_) #[true, true, true, true, true, true, true, true, true, true, true, true] rfl rfl (by kernel_rfl) (fun _ _ _ h => h) (Or.inl ⟨by rfl, ?_⟩) ?_ ?_
            rotate_left
            · intro w'
              go_simp
              with_reducible rfl
            rotate_left
            · simp only [Act.put, List.setIfInBounds_toArray, List.set_cons_zero, List.set_cons_succ, i64_w, i32_w]
              rfl
            refine done_ (by kernel_rfl) ?_
            clear hHeld
            go_wp2_with fail
            go_meet
            case rel => exact ⟨p, M, v5, q, v6, stepH n h (xa, s), kept, HLs.out, rfl, rfl, ⟨HS6.out⟩, ⟨HX6.out⟩⟩
          · have e0 : (m5 == 0) = false := by simpa using q0
            clear q0
            by_cases q1 : m5 = 1
            · have e1 : (m5 == 1) = true := by simp [q1]
              clear q1
              go_wp2_with fail
              go_meet
              case rel => exact ⟨p, M, v, q, v', h, kept, by have := Hhl.out; omega, rfl, rfl, ⟨by first | exact HQ.out | exact HQ.out.drew⟩, ⟨by first | exact HX.out | exact HX.out.drew⟩⟩
            · have e1 : (m5 == 1) = false := by simpa using q1
              clear q1
              by_cases q2 : m5 = 2
              · have e2 : (m5 == 2) = true := by simp [q2]
                clear q2
                have HMk := Lib.hid (mark_calls HQ.out.d)
                go_wp2_with fail
                refine HMk.out.mono ?_; rintro e w5 ⟨rfl, hd5, ho5⟩
                have HD5 := Lib.hid hd5
                have HO5 := Lib.hid ho5
                have HX5 := Lib.hid (HX.out.onlyD HQ.out.d ho5)
                have HQ5 := Lib.hid (HQ.out.onD hd5 (moved_nil _ _) ho5).1
                have HMq := Lib.hid (qmark_calls HQ5.out)
                clear hd5 ho5 HMk x1
                go_wp2_with fail
                refine HMq.out.mono ?_; rintro e w6 ⟨rfl, hq6, ho6⟩
                have HS6 := Lib.hid (HQ.out.both HD5.out (moved_nil _ _) HO5.out hq6 (Moved.refl _ _) ho6)
                have HX6 := Lib.hid (HX5.out.onlyQ HQ5.out ho6)
                clear hq6 ho6 HMq
                go_wp2_with fail
                go_meet
                case rel => exact ⟨p, M, .slice none 0 0, q, v', h, h.length, by have := Hhl.out; omega, rfl, rfl, ⟨HS6.out⟩, ⟨HX6.out⟩⟩
              · have e2 : (m5 == 2) = false := by simpa using q2
                clear q2
                by_cases q3 : m5 = 3
                · have e3 : (m5 == 3) = true := by simp [q3]
                  clear q3
                  by_cases hk : 0 ≤ xa ∧ xa ≤ ((h.length - kept : Nat) : Int)
                  · obtain ⟨k, rfl⟩ : ∃ k : Nat, xa = (k : Int) := ⟨xa.toNat, by omega⟩
                    have hk2 : kept + k ≤ h.length := by have := HQ.out.d.le; omega
                    have HCt := Lib.hid (cut_calls HQ.out.d HL1.out k hk2)
                    have Hk2 := Lib.hid hk2
                    clear hk hk2
                    go_wp2_with fail
                    refine HCt.out.mono ?_; rintro e w5 ⟨pc, Mc, rfl, hd5, hpc, hMc, hb5⟩
                    have HQ5 := Lib.hid (HQ.out.under hb5)
                    have HX5 := Lib.hid (HX.out.below hb5)
                    have HD5 := Lib.hid hd5
                    have HPc : Hid (W.heap.size ≤ pc ∧ W.heap.size ≤ Mc) := Lib.hid (by have := HQ.out.below.size; omega)
                    have HCq := Lib.hid (qcut_calls HQ5.out.r HL1.out k Hk2.out)
                    have x1' := blk_cell HX5.out 1
                    simp only [List.getElem?_toArray, List.getElem?_cons_succ, List.getElem?_cons_zero] at x1'
                    clear hd5 hpc hMc hb5 HCt x1
                    go_wp2_with fail
                    refine HCq.out.mono ?_; rintro e w6 ⟨qc, u, rfl, hq6, hqc, hu, hb6⟩
                    have HS6 : Hid (SS W w6 pc Mc (.slice none 0 0) n qc u (h.take (kept + k)) (kept + k)) := Lib.hid ⟨HD5.out.below hb6 (Nat.le_refl _), hq6, (HQ5.out.under hb6).below, ⟨HPc.out.1, HPc.out.2, by have := HQ5.out.below.size; omega⟩, fun j hj => (by cases hj), fun j hj => by have := hu j hj; have := HQ5.out.below.size; omega⟩
                    have HX6 := Lib.hid (HX5.out.below hb6)
                    have HLt : Hid ((h.take (kept + k)).length ≤ i + 1) := Lib.hid (by rw [List.length_take]; have := Hhl.out; omega)
                    clear hq6 hqc hu hb6 HCq x1'
                    go_wp2_with fail
                    go_meet
                    case rel => exact ⟨pc, Mc, .slice none 0 0, qc, u, h.take (kept + k), kept + k, HLt.out, rfl, rfl, ⟨HS6.out⟩, ⟨HX6.out⟩⟩
                  · have HCt := Lib.hid (cut_no HQ.out.d xa (by omega))
                    have Hk := Lib.hid hk
                    clear hk
                    go_wp2_with fail
                    refine HCt.out.mono ?_; rintro e w5 ⟨rfl, hb5⟩
                    have HQ5 := Lib.hid (HQ.out.under hb5)
                    have HX5 := Lib.hid (HX.out.below hb5)
                    have HCq := Lib.hid (qcut_no HQ5.out.r HL1.out xa Hk.out)
                    have x1' := blk_cell HX5.out 1
                    simp only [List.getElem?_toArray, List.getElem?_cons_succ, List.getElem?_cons_zero] at x1'
                    clear hb5 HCt x1
                    go_wp2_with fail
                    refine HCq.out.mono ?_; rintro e w6 ⟨rfl, hb6⟩
                    have HS6 := Lib.hid (HQ5.out.under hb6)
                    have HX6 := Lib.hid (HX5.out.below hb6)
                    clear hb6 HCq x1'
                    go_wp2_with fail
                    go_meet
                    case rel => exact ⟨p, M, v, q, v', h, kept, by have := Hhl.out; omega, rfl, rfl, ⟨HS6.out⟩, ⟨HX6.out⟩⟩
                · have e3 : (m5 == 3) = false := by simpa using q3
                  clear q3 x1
                  have HCp := Lib.hid (copy_calls HQ.out.d HL1.out)
                  go_wp2_with fail
                  refine HCp.out.mono ?_; rintro e w5 ⟨pc, Mc, u, rfl, hd5, hpc, hMc, hu, hb5⟩
                  have HQ5 := Lib.hid (HQ.out.under hb5)
                  have HX5 := Lib.hid (HX.out.below hb5)
                  have HD5 := Lib.hid hd5
                  have HPc : Hid ((W.heap.size ≤ pc ∧ W.heap.size ≤ Mc ∧ ∀ k, u.ownBlock = some k → W.heap.size ≤ k) ∧ pc ≠ p ∧ Mc ≠ M ∧ ∀ k, u.ownBlock = some k → v.ownBlock ≠ some k) := Lib.hid (by
                    have h1 := HQ.out.below.size
                    have h2 := HQ.out.d.lt
                    refine ⟨⟨by omega, by omega, fun k hk => by have := hu k hk; omega⟩, by omega, by omega, fun k hk e => ?_⟩
                    have := hu k hk
                    have := h2.2.2 k e
                    omega)
                  have HWx := Lib.hid (write_any HQ5.out.d ((1 : Int), (⟨#[120]⟩ : ByteArray)) HL1.out)
                  clear hd5 hpc hMc hu hb5 HCp
                  go_wp2_with fail
                  refine HWx.out.mono ?_; rintro e w6 ⟨rfl, ⟨v6, hd6, hm6⟩, ho6⟩
                  have HD6 := Lib.hid (HD5.out.other HQ5.out.d ho6 HPc.out.2.1 HPc.out.2.2.1 HPc.out.2.2.2)
                  have HX6 := Lib.hid (HX5.out.onlyD HQ5.out.d ho6)
                  have HQ6 := Lib.hid (HQ5.out.onD hd6 hm6 ho6)
                  have HCq := Lib.hid (qcopy_calls HQ6.out.1 HL1.out)
                  clear hd6 hm6 ho6 HWx
                  go_wp2_with fail
                  refine HCq.out.mono ?_; rintro e w7 ⟨qc, u7, rfl, hq7, hqc, hu7, hb7⟩
                  have HS7 : Hid (SS W w7 pc Mc u n qc u7 h kept) := Lib.hid ⟨HD6.out.below hb7 (Nat.le_refl _), hq7, below_step HQ6.out.2.1 hb7, ⟨HPc.out.1.1, HPc.out.1.2.1, by have := HQ6.out.2.1.size; omega⟩, HPc.out.1.2.2, fun j hj => by have := hu7 j hj; have := HQ6.out.2.1.size; omega⟩
                  have HX7 := Lib.hid (HX6.out.below hb7)
                  clear hq7 hqc hu7 hb7 HCq
                  go_wp2_with fail
                  go_meet
                  case rel => exact ⟨pc, Mc, u, qc, u7, h, kept, by have := Hhl.out; omega, rfl, rfl, ⟨HS7.out⟩, ⟨HX7.out⟩⟩
        case rest =>
          obtain ⟨p, M, v, q, v', h, kept, hhl, rfl, rfl, ⟨hs⟩, ⟨hx⟩⟩ := hcut
          have HS := Lib.hid hs
          have Hhl2 := Lib.hid hhl
          have x1 := blk_cell hx 1
          simp only [List.getElem?_toArray, List.getElem?_cons_succ, List.getElem?_cons_zero] at x1
          have hpn := dptr_eqn p
          have HSm := Lib.hid (same_calls hs.d hs.r (by have := Hhl2.out; have := Hlt.out; omega) xa)
          clear hs hx hhl HQ HX HL1
          go_wp2_with fail
          refine HSm.out.mono ?_; rintro e w8 ⟨rfl, hb8⟩
          have HS8 := Lib.hid (HS.out.under hb8)
          have hnx := Hnx.out
          clear hb8 HSm x1
          go_wp2_with fail
          go_roundw
          case rel => exact ⟨i + 1, p, M, v, q, v', h, kept, by have := Hlt.out; omega, Hhl2.out, by first | rfl | (rw [hnx]; rfl), rfl, rfl, ⟨HS8.out⟩⟩
          case measure => have h1 := Hlt.out; first | (rw [hnx]; simp [ixOf, Go.RowKit.intOf]; omega) | (simp [ixOf, Go.RowKit.intOf]; omega)
      · have HSm := Lib.hid (same_calls HSi.out.d HSi.out.r (by have := Hhl.out; omega) 0)
        by_cases h1 : i < N
        · have hd := decide_eq_true (show (i : Int) < (N : Int) by omega)
          have hdn := decide_eq_true h1
          have hd2 := decide_eq_false (show ¬ (i : Int) < 60 by omega)
          have hd2n := decide_eq_false (show ¬ i < 60 by omega)
          clear hlt hi h1
          go_wp2_with fail
          refine HSm.out.mono ?_; rintro e w8 ⟨rfl, hb8⟩
          have HS8 := Lib.hid (HSi.out.under hb8)
          clear hb8
          go_wp2_with fail
          refine (HW.out _).mono ?_; rintro e w9 ⟨rfl, hb9⟩
          have HB9 := Lib.hid (HS8.out.under hb9).below
          clear hb9
          go_wp2
          go_ret
          exact ⟨rfl, HB9.out⟩
        · have hd := decide_eq_false (show ¬ (i : Int) < (N : Int) by omega)
          have hdn := decide_eq_false h1
          clear hlt hi h1
          go_wp2_with fail
          refine HSm.out.mono ?_; rintro e w8 ⟨rfl, hb8⟩
          have HS8 := Lib.hid (HSi.out.under hb8)
          clear hb8
          go_wp2_with fail
          refine (HW.out _).mono ?_; rintro e w9 ⟨rfl, hb9⟩
          have HB9 := Lib.hid (HS8.out.under hb9).below
          clear hb9
          go_wp2
          go_ret
          exact ⟨rfl, HB9.out⟩
theorem playsWalk (n : Int) (A : Option Addr) (N cap : Nat) (l : List Dc) (W : World) (hw : (Lit.int .i64 n).wf = true) (hC : kD.C W A N l) (hN : N ≤ cap) (hm : N ≤ maxLen) (hy : ∀ x ∈ l, ((Lit.int .i64 x.1).wf = true ∧ (Lit.int .i64 x.2.1).wf = true) ∧ x.2.2.size ≤ maxLen) :
    Calls Tryd.prog 7 #[.int .i64 n, .slice A N cap] W fun e w' => e = .returned (.bool true) ∧ Below W.heap.size W w' := playsLaw n A N cap l W hC hN
end Go.Proofs.YteooldbdilkmeaaDoor.SC
