/- The reference reader's Fixed. -/
import Derived.Test.YthgahepldlicbaaRRdrEnd
namespace Go.Proofs.Ythgahepldlicbaa.BR
open Go.RowKit Go.Proofs.YthgahepldlicbaaW.PrintWords Go.Proofs.YthgahepldlicbaaW.PrintLast Go.Proofs.YthgahepldlicbaaW.PrintMore Go.Proofs.Ythgahepldlicbaa.CD
set_option linter.unusedVariables false
set_option linter.unusedSimpArgs false
theorem rFixed_take (xs : List Int) (width : Int) : rFixed (xs, false) width = (unfixed (rTake (xs, false) (if width < 1 ∨ width > 8 then -1 else width)).1, (rTake (xs, false) (if width < 1 ∨ width > 8 then -1 else width)).2) := by
  unfold rFixed rTake
  simp only [Bool.false_eq_true, if_false]
  by_cases h : width < 1 ∨ width > 8
  · rw [if_pos h, if_pos (by omega), if_pos (by omega)]; rfl
  · rw [if_neg h]
    by_cases h2 : width > (xs.length : Int)
    · rw [if_pos (by omega), if_pos (by omega)]; rfl
    · rw [if_neg (by omega), if_neg (by omega)]
theorem rTake_le (xs : List Int) (n : Int) (hn : n ≤ 8) : (rTake (xs, false) n).1.length ≤ 8 := by
  unfold rTake
  simp only [Bool.false_eq_true, if_false]
  split
  · simp
  · rw [List.length_take]; omega
theorem rTake_bytes (xs : List Int) (n : Int) (hb : Bytes xs) : Bytes (rTake (xs, false) n).1 := by
  unfold rTake
  simp only [Bool.false_eq_true, if_false]
  split
  · exact Bytes.nil
  · exact hb.take _
theorem unfixed_from (l : List Int) (j : Nat) (hj : j < l.length) : unfixed (l.drop j) = (l.getD j 0).toNat + 256 * unfixed (l.drop (j + 1)) := by
  rw [List.drop_eq_getElem_cons hj, unfixed, List.getD_eq_getElem?_getD, List.getElem?_eq_getElem hj]; rfl
set_option maxHeartbeats 1000000 in
set_option maxRecDepth 100000 in
theorem reffixed_calls (g : Nat) (xs : List Int) (br : Bool) (width : Int) (w : World) (h : RRd w g xs br) :
    Calls Try.prog 42 #[.pointer (some ⟨g, 0, none⟩), .int .i64 width] w fun e w' => e = .returned (.int .u64 ((rFixed (xs, br) width).1 : Int)) ∧ RRd w' g (rFixed (xs, br) width).2.1 (rFixed (xs, br) width).2.2 ∧ w.grownBy w' (some g) := by
  have H := Lib.hid h
  obtain ⟨A, c, hb, hc, hr, hne⟩ := h.cell
  have h1 := blk_cell hb 1
  simp only [List.getElem?_toArray, List.getElem?_cons_succ, List.getElem?_cons_zero] at h1
  clear hb hc hr hne h
  cases br with
  | true =>
    go_enter Try.func42, Try.ntmps42
    go_wp2
    go_ret
    exact ⟨rfl, H.out, World.grownBy.refl _ _⟩
  | false =>
    rw [rFixed_take]
    obtain ⟨n, hn⟩ : ∃ n, n = (if width < 1 ∨ width > 8 then -1 else width) := ⟨_, rfl⟩
    rw [← hn]
    have hn8 : n ≤ 8 := by split at hn <;> omega
    have HC := Lib.hid (step_calls g xs n w H.out)
    have hl8 := rTake_le xs n hn8
    have hlb := rTake_bytes xs n H.out.bytes
    obtain ⟨⟨l, s⟩, hs⟩ : ∃ q, rTake (xs, false) n = q := ⟨_, rfl⟩
    rw [hs] at HC hl8 hlb ⊢
    have HLB := Lib.hid hlb
    clear hs hlb
    have hcase : (width < 1 ∧ n = -1) ∨ (¬ width < 1 ∧ width > 8 ∧ n = -1) ∨ (¬ width < 1 ∧ ¬ width > 8 ∧ n = width) := by
      split at hn <;> omega
    clear hn
    rcases hcase with ⟨k1, rfl⟩ | ⟨k1, k2, rfl⟩ | ⟨k1, k2, rfl⟩
    all_goals (
      go_enter Try.func42, Try.ntmps42
      go_wp2_with fail
      refine HC.out.mono ?_; rintro e w1 ⟨v1, rfl, ho1, hr1, hg1⟩
      obtain ⟨A1, c1, rfl, hc1, hq1⟩ := ho1.slice
      have HQ := Lib.hid hq1
      have HR := Lib.hid hr1
      have HG := Lib.hid hg1
      clear ho1 hc1 hq1 hr1 hg1
      go_wp2_with fail
      go_loopw [6, 7] (fun nv iv W => ∃ j : Nat, j ≤ l.length ∧ iv = .int .i64 ((j : Int) - 1) ∧ nv = .int .u64 (unfixed (l.drop j) : Int) ∧ Aside0 (Drawn0 w1 W)) (fun _ iv _ => (intOf iv + 1).toNat)
      case atStart => exact ⟨l.length, by omega, by first | rfl | go_num, by rw [List.drop_of_length_le (by omega)]; rfl, ⟨⟨0, rfl⟩⟩⟩
      case round =>
        obtain ⟨j, hj, rfl, rfl, ⟨⟨n3, rfl⟩⟩⟩ := hrel
        cases j with
        | zero =>
          go_wp2
          go_ret
          exact ⟨rfl, HR.out.drewN _, gdrewN HG.out _⟩
        | succ j =>
          have hu := unfixed_from l j (by omega)
          obtain ⟨ad, rfl, hcell⟩ := HQ.out.2.2 (by omega)
          have hc0 : (w1.drewN n3).cell? (ad.add j) = some (.int .u8 (l.getD j 0)) := hcell j (by omega)
          have hlt := unfixed_lt (l.drop (j + 1)) (HLB.out.drop _)
          have hcb : 0 ≤ l.getD j 0 ∧ l.getD j 0 < 256 := by
            rw [List.getD_eq_getElem?_getD, List.getElem?_eq_getElem (by omega)]
            exact HLB.out _ (List.getElem_mem (by omega))
          have hpow : 256 ^ (l.drop (j + 1)).length ≤ 256 ^ 7 := Nat.pow_le_pow_right (by decide) (by rw [List.length_drop]; omega)
          have h7 : (256 : Nat) ^ 7 = 72057594037927936 := by decide
          rw [h7] at hpow
          obtain ⟨m, hm⟩ : ∃ m, m = unfixed (l.drop (j + 1)) := ⟨_, rfl⟩
          obtain ⟨y, hy⟩ : ∃ y : Nat, l.getD j 0 = (y : Int) := ⟨(l.getD j 0).toNat, by omega⟩
          rw [← hm] at hlt hu ⊢
          rw [hy] at hcb hu hc0
          have hm7 : m < 72057594037927936 := Nat.lt_of_lt_of_le hlt hpow
          have hj2 : j < l.length := hj
          have HU : Hid (unfixed (l.drop j) = y + 256 * m) := Lib.hid (by rw [hu]; omega)
          have hjj : ((j + 1 : Nat) : Int) - 1 = (j : Int) := by omega
          rw [hjj]
          clear hlt hpow h7 hu hm hy hcell hjj
          go_wp2
          go_roundw
          case rel => exact ⟨j, by omega, by first | rfl | go_num, by rw [HU.out]; go_num, ⟨⟨n3, rfl⟩⟩⟩
          case measure => simp [intOf])
end Go.Proofs.Ythgahepldlicbaa.BR
