/- Plain: the first number of bytes by its last group; what the reference's First finds is what dec finds. -/
import Derived.Test.YthgahepldlicbaaCodec
namespace Go.Proofs.Ythgahepldlicbaa.CD
set_option linter.unusedVariables false
set_option linter.unusedSimpArgs false
def val7 : List Int → Nat
  | [] => 0
  | c :: l => (c % 128).toNat + 128 * val7 l
/-- The groups of a number: all but the last go on. -/
def Goes (l : List Int) (k : Nat) : Prop := 1 ≤ k ∧ k ≤ l.length ∧ (∀ j, j + 1 < k → 128 ≤ l.getD j 0) ∧ l.getD (k - 1) 0 < 128
theorem Goes.uniq {l : List Int} {a b : Nat} (h : Goes l a) (g : Goes l b) : a = b := by
  obtain ⟨h1, h2, h3, h4⟩ := h
  obtain ⟨g1, g2, g3, g4⟩ := g
  rcases Nat.lt_trichotomy a b with hlt | he | hgt
  · have := g3 (a - 1) (by omega); omega
  · exact he
  · have := h3 (b - 1) (by omega); omega
theorem numF_goes : ∀ (k n : Nat) (rest : List Int), n < 128 ^ (k + 1) → Goes (numF k n ++ rest) (numF k n).length
  | 0, n, rest, h => by
    have : n < 128 := by simpa using h
    refine ⟨by simp [numF], by simp [numF], fun j hj => by simp [numF] at hj, ?_⟩
    simp [numF]; omega
  | k + 1, n, rest, h => by
    by_cases hs : n < 128
    · rw [numF_small _ _ hs]
      refine ⟨by simp, by simp, fun j hj => by simp at hj, ?_⟩
      simp; omega
    · rw [numF_big k n (by omega)]
      obtain ⟨i1, i2, i3, i4⟩ := numF_goes k (n / 128) rest (by rw [Nat.pow_succ] at h; omega)
      refine ⟨by simp, by simp, fun j hj => ?_, ?_⟩
      · cases j with
        | zero => simp; omega
        | succ j => simp only [List.cons_append, List.getD_cons_succ]; exact i3 j (by simp at hj; omega)
      · simp only [List.length_cons, List.cons_append, Nat.add_sub_cancel]
        obtain ⟨q, hq⟩ : ∃ q, (numF k (n / 128)).length = q + 1 := ⟨(numF k (n / 128)).length - 1, by omega⟩
        rw [hq] at i4 ⊢
        simp only [List.getD_cons_succ]
        exact i4
theorem val7_numF : ∀ (k n : Nat), n < 128 ^ (k + 1) → val7 (numF k n) = n
  | 0, n, h => by
    have : n < 128 := by simpa using h
    simp [numF, val7]; omega
  | k + 1, n, h => by
    by_cases hs : n < 128
    · rw [numF_small _ _ hs]; simp [val7]; omega
    · rw [numF_big k n (by omega), val7, val7_numF k (n / 128) (by rw [Nat.pow_succ] at h; omega)]
      omega
theorem num_goes (n : Nat) (rest : List Int) (h : n < 18446744073709551616) : Goes (num n ++ rest) (num n).length := numF_goes 9 n rest (by omega)
theorem val7_num (n : Nat) (h : n < 18446744073709551616) : val7 (num n) = n := val7_numF 9 n (by omega)
theorem val7_take : ∀ (l : List Int) (i : Nat), i < l.length → val7 (l.take (i + 1)) = val7 (l.take i) + (l.getD i 0 % 128).toNat * 128 ^ i
  | c :: l, 0, _ => by simp [val7]
  | c :: l, i + 1, h => by
    simp only [List.take_succ_cons, val7, List.getD_cons_succ]
    rw [val7_take l i (by simpa using h), Nat.pow_succ]
    generalize (l.getD i 0 % 128).toNat = d
    generalize 128 ^ i = p
    have : d * (p * 128) = 128 * (d * p) := by rw [← Nat.mul_assoc, Nat.mul_comm]
    omega
theorem dec_goes_not (l : List Int) (hb : Bytes l) (h : ∀ k, k ≤ 10 → ¬ Goes l k) : dec l = (0, 0) := by
  cases hd : dec l with
  | mk m k =>
    by_cases hk : k = 0
    · subst hk; rw [dec_none l m hd]
    · obtain ⟨hm, hkl, hl, _, _, hk10⟩ := dec_back l hb m k hd hk
      have hg := num_goes m (l.drop k) hm
      rw [← hl, ← hkl] at hg
      exact absurd hg (h k hk10)
theorem dec_goes (l : List Int) (hb : Bytes l) (k : Nat) (hg : Goes l k) (n : Nat) (hn : n = val7 (l.take k) % 18446744073709551616) :
    dec l = if l.take (num n).length = num n then (n, k) else (0, 0) := by
  have hn64 : n < 18446744073709551616 := by rw [hn]; exact Nat.mod_lt _ (by decide)
  split
  · rename_i hp
    have hl : l = num n ++ l.drop (num n).length := by
      have := List.take_append_drop (num n).length l
      rw [hp] at this; exact this.symm
    have hg2 := num_goes n (l.drop (num n).length) hn64
    rw [← hl] at hg2
    rw [hg.uniq hg2]
    have hd := dec_num n (l.drop (num n).length) hn64
    rw [← hl] at hd
    exact hd
  · rename_i hp
    cases hd : dec l with
    | mk m k' =>
      by_cases hk : k' = 0
      · subst hk; rw [dec_none l m hd]
      · exfalso
        obtain ⟨hm, hkl, hl, _, _, _⟩ := dec_back l hb m k' hd hk
        have hg2 := num_goes m (l.drop k') hm
        rw [← hl] at hg2
        have e := hg.uniq hg2
        have ht : l.take k = num m := by rw [e, hl]; exact List.take_left
        apply hp
        have hnm : n = m := by rw [hn, ht, val7_num m hm]; exact Nat.mod_eq_of_lt hm
        rw [hnm, ← e]; exact ht
end Go.Proofs.Ythgahepldlicbaa.CD
