/- The reference's First, printed, is dec. -/
import Derived.Test.YthgahepldlicbaaFirstP
import Derived.Test.YthgahepldlicbaaCodecR
import Derived.Test.YthgahepldlicbaaPBytesReadsx2
namespace Go.Proofs.Ythgahepldlicbaa.CD
open Go.RowKit Go.Proofs.YthgahepldlicbaaW.PrintWords Go.Proofs.YthgahepldlicbaaW.PrintLast Go.Proofs.YthgahepldlicbaaW.PrintMore
set_option linter.unusedVariables false
set_option linter.unusedSimpArgs false
theorem rdn (l : List Int) (i : Nat) : rd l (i : Int) = l.getD i 0 := by simp [rd]
theorem same_l0 (b w : List Int) (hl : w.length ≤ b.length) (hw : w.length ≤ 1000000) : ∀ (d f i : Nat), d = w.length - i → d < f → PBytesReads.bedrockref04_same.l0 f b w (i : Int) = some (decide ((b.take w.length).drop i = w.drop i))
  | 0, f, i, hd, hf => by
    obtain ⟨f, rfl⟩ : ∃ g, f = g + 1 := ⟨f - 1, by omega⟩
    simp only [PBytesReads.bedrockref04_same.l0]
    rw [if_neg (by omega), List.drop_of_length_le (by rw [List.length_take]; omega), List.drop_of_length_le (by omega)]
    simp
  | d + 1, f, i, hd, hf => by
    obtain ⟨f, rfl⟩ : ∃ g, f = g + 1 := ⟨f - 1, by omega⟩
    simp only [PBytesReads.bedrockref04_same.l0]
    have hi : i < w.length := by omega
    rw [if_pos (by omega), if_pos (by omega), if_pos (by omega), rdn, rdn]
    have e1 : (b.take w.length).drop i = b.getD i 0 :: (b.take w.length).drop (i + 1) := by
      rw [List.drop_eq_getElem_cons (by rw [List.length_take]; omega), List.getElem_take, List.getD_eq_getElem?_getD, List.getElem?_eq_getElem (by omega)]; rfl
    have e2 : w.drop i = w.getD i 0 :: w.drop (i + 1) := by
      rw [List.drop_eq_getElem_cons hi, List.getD_eq_getElem?_getD, List.getElem?_eq_getElem hi]; rfl
    rw [e1, e2]
    have hw1 : wrap64 ((i : Int) + 1) = ((i + 1 : Nat) : Int) := by unfold wrap64; omega
    by_cases he : b.getD i 0 = w.getD i 0
    · rw [if_pos he, hw1, same_l0 b w hl hw d f (i + 1) (by omega) (by omega), he]
      simp
    · rw [if_neg he, decide_eq_false (fun e => he (by injection e))]
theorem same_f (b w : List Int) (hw : w.length ≤ 1000000) (f : Nat) (hf : w.length < f) : PBytesReads.bedrockref04_same.f f b w = some (decide (b.take w.length = w)) := by
  unfold PBytesReads.bedrockref04_same.f
  by_cases h : b.length < w.length
  · rw [if_pos (by omega)]
    have : ¬ (b.take w.length = w) := fun e => by have := congrArg List.length e; rw [List.length_take] at this; omega
    simp [this]
  · rw [if_neg (by omega)]
    have := same_l0 b w (by omega) hw w.length f 0 (by omega) hf
    simpa using this
theorem num_one : ∀ (f : Nat) (x : Int) (y : List Int), PBytesReads.bedrockref04_Num.l0 f x y = PBytesLay.bedrockref04_Num.l0 f x y
  | 0, _, _ => rfl
  | f + 1, x, y => by simp only [PBytesReads.bedrockref04_Num.l0, PBytesLay.bedrockref04_Num.l0, num_one f]
theorem num_fF (n f : Nat) (hn : n < 18446744073709551616) (hf : 12 ≤ f) : PBytesReads.bedrockref04_Num.f f (n : Int) = some (num n) := by
  have h := CR.num_l0 9 f n [] (by omega) hn (by simp) (by omega)
  unfold PBytesReads.bedrockref04_Num.f
  rw [num_one]
  exact h
/-- What First does behind its first last group. -/
def told (l : List Int) (k n : Nat) : Int × Int := if l.take (num n).length = num n then ((n : Int), (k : Int)) else (0, 0)
theorem first_l1 (l : List Int) (hb : Bytes l) (k F : Nat) (hF : 20 ≤ F) : ∀ (i x : Nat), i ≤ l.length → i ≤ 1000000 → x < 18446744073709551616 →
    PBytesReads.bedrockref04_First.l1 (i + 1 + F) l (k : Int) (x : Int) ((i : Int) - 1) = some (told l k ((x * 128 ^ i + val7 (l.take i)) % 18446744073709551616))
  | 0, x, hi, h6, hx => by
    rw [show 0 + 1 + F = F + 1 by omega]
    simp only [PBytesReads.bedrockref04_First.l1]
    rw [if_neg (by omega), num_fF x F hx (by omega)]
    simp only [Option.bind_some]
    rw [same_f l (num x) (by have := num_le x; omega) F (by have := num_le x; omega)]
    simp only [Option.bind_some, decide_eq_true_eq, List.take_zero, val7, Nat.pow_zero, Nat.mul_one, Nat.add_zero]
    rw [Nat.mod_eq_of_lt hx]
    unfold told
    split <;> rfl
  | i + 1, x, hi, h6, hx => by
    rw [show i + 1 + 1 + F = (i + 1 + F) + 1 by omega]
    simp only [PBytesReads.bedrockref04_First.l1]
    have e1 : (((i + 1 : Nat) : Int) - 1) = (i : Int) := by omega
    rw [e1, if_pos (by omega), if_pos (by omega), if_pos (by omega), rdn]
    have hc : 0 ≤ l.getD i 0 ∧ l.getD i 0 < 256 := by
      rw [List.getD_eq_getElem?_getD, List.getElem?_eq_getElem (by omega)]
      exact hb _ (List.getElem_mem (by omega))
    have hv := val7_take l i (by omega)
    obtain ⟨c, hce⟩ : ∃ c : Nat, l.getD i 0 = (c : Int) := ⟨(l.getD i 0).toNat, by omega⟩
    rw [hce] at hc hv ⊢
    have e2 : IntKind.u64.wrap (IntKind.u64.wrap (128 * (x : Int)) + IntKind.u64.wrap (Int.tmod (c : Int) 128)) = (((128 * x + c % 128) % 18446744073709551616 : Nat) : Int) := by
      rw [Int.tmod_eq_emod_of_nonneg (by omega), CF.wu64, CF.wu64, CF.wu64]; omega
    have e3 : wrap64 ((i : Int) - 1) = (i : Int) - 1 := by unfold wrap64; omega
    rw [e2, e3, first_l1 l hb k F hF i _ (by omega) (by omega) (Nat.mod_lt _ (by decide))]
    congr 2
    rw [hv]
    have e4 : (((c : Int) % 128).toNat) = c % 128 := by omega
    rw [e4, Nat.pow_succ]
    generalize val7 (l.take i) = v
    generalize 128 ^ i = p
    rw [Nat.add_mod, Nat.mod_mul_mod, ← Nat.add_mod]
    congr 1
    rw [Nat.add_mul, Nat.mul_comm 128 x, Nat.mul_assoc, Nat.mul_comm 128 p]
    omega
theorem first_l0 (l : List Int) (hb : Bytes l) (hl : l.length ≤ 140737488355328) : ∀ (d k : Nat), k + d = 11 → 1 ≤ k → (∀ j, j + 1 < k → 128 ≤ l.getD j 0) →
    PBytesReads.bedrockref04_First.l0 (2 * d + 50) l (k : Int) = some (((dec l).1 : Int), ((dec l).2 : Int))
  | d, k, hd, hk, hall => by
    have hfall : ∀ (hk' : ¬ (k ≤ 10 ∧ k ≤ l.length)), dec l = (0, 0) := fun hk' => dec_goes_not l hb fun q hq hg => by
      obtain ⟨g1, g2, g3, g4⟩ := hg
      have := hall (q - 1) (by omega)
      omega
    rw [show 2 * d + 50 = (2 * d + 48 + 1) + 1 by omega]
    simp only [PBytesReads.bedrockref04_First.l0]
    by_cases h10 : k ≤ 10
    · rw [if_pos (by omega)]
      by_cases hlen : k ≤ l.length
      · rw [decide_eq_true (by omega)]
        simp only [PBytesReads.bedrockref04_First.j1, if_true]
        have e1 : wrap64 ((k : Int) - 1) = ((k - 1 : Nat) : Int) := by unfold wrap64; omega
        have e2 : wrap64 ((k : Int) + 1) = ((k + 1 : Nat) : Int) := by unfold wrap64; omega
        rw [e1, e2, if_pos (by omega), if_pos (by omega), rdn]
        by_cases hc : 128 ≤ l.getD (k - 1) 0
        · rw [if_pos (by omega)]
          obtain ⟨d, rfl⟩ : ∃ q, d = q + 1 := ⟨d - 1, by omega⟩
          rw [show 2 * (d + 1) + 48 = 2 * d + 50 by omega]
          refine first_l0 l hb hl d (k + 1) (by omega) (by omega) fun j hj => ?_
          rcases Nat.lt_or_ge (j + 1) k with h | h
          · exact hall j h
          · obtain rfl : j = k - 1 := by omega
            exact hc
        · rw [if_neg (by omega)]
          have hg : Goes l k := ⟨hk, hlen, hall, by omega⟩
          have h1 := first_l1 l hb k (2 * d + 48 - k - 1) (by omega) k 0 hlen (by omega) (by decide)
          rw [show k + 1 + (2 * d + 48 - k - 1) = 2 * d + 48 by omega] at h1
          have e3 : ((k - 1 : Nat) : Int) = (k : Int) - 1 := by omega
          rw [e3]
          have h1' : PBytesReads.bedrockref04_First.l1 (2 * d + 48) l (k : Int) 0 ((k : Int) - 1) = _ := h1
          rw [h1', Nat.zero_mul, Nat.zero_add, dec_goes l hb k hg _ rfl]
          unfold told
          split <;> rfl
      · rw [decide_eq_false (by omega)]
        simp only [PBytesReads.bedrockref04_First.j1, Bool.false_eq_true, if_false]
        rw [hfall (by omega)]; rfl
    · rw [if_neg (by omega)]
      simp only [PBytesReads.bedrockref04_First.j1, Bool.false_eq_true, if_false]
      rw [hfall (by omega)]; rfl
  termination_by d => d
theorem first_f (l : List Int) (hb : Bytes l) (hl : l.length ≤ 140737488355328) : PBytesReads.bedrockref04_First.f 70 l = some (((dec l).1 : Int), ((dec l).2 : Int)) :=
  first_l0 l hb hl 10 1 (by omega) (by omega) fun j hj => by omega
end Go.Proofs.Ythgahepldlicbaa.CD
