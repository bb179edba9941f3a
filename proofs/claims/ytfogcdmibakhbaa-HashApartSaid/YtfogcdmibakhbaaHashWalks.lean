/- Walks for the chapter hash: the reference's halving and mixing; what they answer, in plain numbers. -/
import Derived.Test.YtfogcdmibakhbaaPHashMixx0
import Derived.Test.YtfogcdmibakhbaaHashPlain
import Derived.Lib.Hide
namespace Go.Proofs.Ytfogcdmibakhbaa.HW
open Go.RowKit Go.Proofs.YtfogcdmibakhbaaW.PrintWords Go.Proofs.YtfogcdmibakhbaaW.PrintLast Go.Proofs.YtfogcdmibakhbaaW.PrintMore
set_option linter.unusedVariables false
set_option linter.unusedSimpArgs false

/-! ### bedrockref03_cut: function 16 -/
def bedrockref03_cut.l0 : Nat → Int → Int → Int → Option (Int)
  | 0, _, _, _ => none
  | k + 1, x0, x1, x5 => if x5 < x1 then (bedrockref03_cut.l0 k (IntKind.u64.wrap (Int.tdiv x0 2)) x1 (wrap64 (x5 + 1))) else (some x0)
def bedrockref03_cut.f (k : Nat) (a0 : Int) (a1 : Int) : Option (Int) := bedrockref03_cut.l0 k a0 a1 0
theorem bedrockref03_cut.mono_l : ∀ k, (∀ y0 y1 y2, LeO (bedrockref03_cut.l0 k y0 y1 y2) (bedrockref03_cut.l0 (k + 1) y0 y1 y2))
  | 0 => fun _ _ _ r h => by simp [bedrockref03_cut.l0] at h
  | k + 1 => by
    have ih0 := bedrockref03_cut.mono_l k
    · intro y0 y1 y2
      unfold bedrockref03_cut.l0
      repeat' first
      | (with_reducible exact ih0 _ _ _)
      | (with_reducible exact LeO.refl _)
      | (with_reducible exact LeO.none _)
      | (with_reducible refine LeO.ite ?_ ?_)
      | (with_reducible refine LeO.bind ?_ (fun _ => ?_))
      | exact ih0 _ _ _
      | exact LeO.none _
      | refine LeO.ite ?_ ?_
      | refine LeO.bind ?_ (fun _ => ?_)
theorem bedrockref03_cut.mono : ∀ a0 a1 k, LeO (bedrockref03_cut.f k a0 a1) (bedrockref03_cut.f (k + 1) a0 a1) := by
  intro a0 a1 k
  have ih0 := bedrockref03_cut.mono_l k
  unfold bedrockref03_cut.f
  repeat' first
      | (with_reducible exact ih0 _ _ _)
      | (with_reducible exact LeO.refl _)
      | (with_reducible exact LeO.none _)
      | (with_reducible refine LeO.ite ?_ ?_)
      | (with_reducible refine LeO.bind ?_ (fun _ => ?_))
      | exact ih0 _ _ _
      | exact LeO.none _
      | refine LeO.ite ?_ ?_
      | refine LeO.bind ?_ (fun _ => ?_)
set_option maxHeartbeats 8000000 in
set_option maxRecDepth 100000 in
theorem bedrockref03_cut.calls (k : Nat) (a0 : Int) (a1 : Int) (r : Int) (w : World) (h : bedrockref03_cut.f k a0 a1 = some r) :
    Calls Try.prog 16 #[.int .u64 a0, .int .i64 a1] w fun e w' => e = .returned (.int .u64 r) ∧ Drawn0 w w' := by
  have H : (bedrockref03_cut.l0 k a0 a1 0) = some r := h
  clear h
  have H' := Aside0.mk H
  clear H
  go_enter Try.func16, Try.ntmps16
  go_wp2
  go_loopg [0, 5] k (fun kq v0 v5 w' => ∃ (x0_1 : Int) (x5_1 : Int), v0 = .int .u64 x0_1 ∧ v5 = .int .i64 x5_1 ∧ Aside0 (bedrockref03_cut.l0 kq x0_1 a1 x5_1 = some r) ∧ Aside0 (kq ≤ k) ∧ Drawn0 w w')
  case atStart => exact ⟨(a0), (0), (by first | rfl | (simp; done) | (simp [*]; done)), (by first | rfl | (simp; done) | (simp [*]; done)), H', ⟨Nat.le_refl _⟩, by repeat (first | exact Drawn0.refl _ | apply Drawn0.step)⟩
  case round =>
    clear H'
    try clear c1
    try clear p2
    obtain ⟨x0_1, x5_1, rfl, rfl, HA, HK1, ⟨m1, rfl⟩⟩ := hrel
    cases gk with
    | zero => exact absurd HA.out (by simp [bedrockref03_cut.l0])
    | succ k1 =>
      have H := HA.out
      clear HA
      simp only [bedrockref03_cut.l0] at H
      by_cases c3 : x5_1 < a1
      · rw [if_pos c3] at H
        have c3b0 : decide (x5_1 < a1) = true := decide_eq_true c3
        clear c3
        have H' := Aside0.mk H
        clear H
        go_wp2
        go_roundg k1
        case measure => have := HK1.out; omega
        case rel => exact ⟨(IntKind.u64.wrap (Int.tdiv x0_1 2)), (wrap64 (x5_1 + 1)), (by first | rfl | (simp; done) | (simp [*]; done)), (by first | rfl | (simp; done) | (simp [*]; done)), H', ⟨by have := HK1.out; omega⟩, by repeat (first | exact Drawn0.refl _ | apply Drawn0.step)⟩
      · rw [if_neg c3] at H
        have c3b0 : decide (x5_1 < a1) = false := decide_eq_false c3
        clear c3
        obtain rfl := Option.some.inj H
        go_wp2
        go_ret
        exact ⟨by first | rfl | (simp; done) | (simp [*]; done), by repeat (first | exact Drawn0.refl _ | apply Drawn0.step)⟩


theorem cut_l0 (n : Int) (hn : n ≤ 1000) : ∀ (d k : Nat) (x i : Int), i = n - d → 0 ≤ i → d < k → bedrockref03_cut.l0 k x n i = some (HP.half d x)
  | 0, k, x, i, hi, h0, hk => by
    obtain ⟨k, rfl⟩ : ∃ m, k = m + 1 := ⟨k - 1, by omega⟩
    simp only [bedrockref03_cut.l0, HP.half]
    rw [if_neg (by omega)]
  | d + 1, k, x, i, hi, h0, hk => by
    obtain ⟨k, rfl⟩ : ∃ m, k = m + 1 := ⟨k - 1, by omega⟩
    have hw : wrap64 (i + 1) = i + 1 := by unfold wrap64; omega
    simp only [bedrockref03_cut.l0, HP.half]
    rw [if_pos (by omega), hw]
    exact cut_l0 n hn d k _ _ (by omega) (by omega) (by omega)
theorem cut_f (d k : Nat) (x : Int) (h0 : 0 ≤ x) (h1 : x < 18446744073709551616) (hd : d ≤ 1000) (hk : d < k) : bedrockref03_cut.f k x d = some (x / 2 ^ d) := by
  unfold bedrockref03_cut.f
  rw [cut_l0 d (by omega) d k x 0 (by omega) (by omega) hk, HP.half_eq d x h0 h1]
theorem cut_calls (d : Nat) (hd : d ≤ 60) (x : Int) (h0 : 0 ≤ x) (h1 : x < 18446744073709551616) (w : World) :
    Calls Try.prog 16 #[.int .u64 x, .int .i64 d] w fun e w' => e = .returned (.int .u64 (x / 2 ^ d)) ∧ Drawn0 w w' :=
  bedrockref03_cut.calls 100 x d _ w (cut_f d 100 x h0 h1 (by omega) (by omega))
theorem cut30 (x : Int) (h : 0 ≤ x ∧ x < 18446744073709551616) (w : World) : Calls Try.prog 16 #[.int .u64 x, .int .i64 30] w fun e w' => e = .returned (.int .u64 (x / 1073741824)) ∧ Drawn0 w w' := cut_calls 30 (by omega) x h.1 h.2 w
theorem cut27 (x : Int) (h : 0 ≤ x ∧ x < 18446744073709551616) (w : World) : Calls Try.prog 16 #[.int .u64 x, .int .i64 27] w fun e w' => e = .returned (.int .u64 (x / 134217728)) ∧ Drawn0 w w' := cut_calls 27 (by omega) x h.1 h.2 w
theorem cut31 (x : Int) (h : 0 ≤ x ∧ x < 18446744073709551616) (w : World) : Calls Try.prog 16 #[.int .u64 x, .int .i64 31] w fun e w' => e = .returned (.int .u64 (x / 2147483648)) ∧ Drawn0 w w' := cut_calls 31 (by omega) x h.1 h.2 w

set_option maxHeartbeats 8000000 in
set_option maxRecDepth 100000 in
theorem refMix_calls (a0 : Int) (w : World) :
    Calls Try.prog 10 #[.int .u64 a0] w fun e w' => e = .returned (.int .u64 (HP.mix a0)) ∧ Drawn0 w w' := by
  unfold HP.mix
  have Hr := Lib.hid HP.wu64_range
  go_enter Try.func10, Try.ntmps10
  go_wp2_with fail
  refine (cut30 _ (Hr.out _) _).mono ?_; rintro e w' ⟨rfl, ⟨n1, rfl⟩⟩
  go_wp2_with fail
  refine (cut27 _ (Hr.out _) _).mono ?_; rintro e w' ⟨rfl, ⟨n2, rfl⟩⟩
  go_wp2_with fail
  refine (cut31 _ (Hr.out _) _).mono ?_; rintro e w' ⟨rfl, ⟨n3, rfl⟩⟩
  go_wp2_with fail
  go_ret
  exact ⟨rfl, by repeat (first | exact Drawn0.refl _ | apply Drawn0.step)⟩
end Go.Proofs.Ytfogcdmibakhbaa.HW
