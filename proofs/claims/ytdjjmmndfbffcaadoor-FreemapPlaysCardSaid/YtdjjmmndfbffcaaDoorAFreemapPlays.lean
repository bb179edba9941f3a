/- The own texts that the statement FreemapPlays leans on: FmP, FmW, FmTurn, FmNew, FmCopy, FmTake, FmSort, FmChange, FmKept, FmAdds, Codec, Crc, CrcL, SupP, FmHomes, FmRef, FmRefTake, FmRefChange, FmRefSame, FmBytes, FmPlays. -/
import Derived.Lib.TrailingZeros
import Derived.Test.YtdjjmmndfbffcaaDoorPFreemapLeastx0
import Derived.Laws.BitsAllLaws
import Derived.Lib.Hide
import Derived.Outline
import Derived.Deep.DeepCutAuto
import Derived.Test.YtdjjmmndfbffcaaDoorShelf
import Derived.Shelf.Spec.TrailingZeros
import Derived.RowKit
import Derived.Laws.BitsLemmas
namespace Go.Proofs.YtdjjmmndfbffcaaDoor.FM
set_option linter.unusedVariables false
set_option linter.unusedSimpArgs false
def cnt (f : Nat → Bool) : Nat → Nat
  | 0 => 0
  | k + 1 => cnt f k + (if f k then 1 else 0)
def mem (f : Nat → Bool) : Nat → List Int
  | 0 => []
  | k + 1 => mem f k ++ (if f k then [(k : Int)] else [])
theorem mem_length (f : Nat → Bool) : ∀ n, (mem f n).length = cnt f n
  | 0 => rfl
  | k + 1 => by
    unfold mem cnt
    rw [List.length_append, mem_length f k]
    split <;> rfl
theorem cnt_le (f : Nat → Bool) : ∀ n, cnt f n ≤ n
  | 0 => Nat.le_refl _
  | k + 1 => by
    unfold cnt
    have := cnt_le f k
    split <;> omega
theorem cnt_congr {f g : Nat → Bool} : ∀ n, (∀ i, i < n → f i = g i) → cnt f n = cnt g n
  | 0, _ => rfl
  | k + 1, h => by
    unfold cnt
    rw [cnt_congr k (fun i hi => h i (by omega)), h k (by omega)]
theorem cnt_all (f : Nat → Bool) : ∀ n, (∀ i, i < n → f i = true) → cnt f n = n
  | 0, _ => rfl
  | k + 1, h => by
    unfold cnt
    rw [cnt_all f k (fun i hi => h i (by omega)), h k (by omega), if_pos rfl]
theorem cnt_none (f : Nat → Bool) : ∀ n, (∀ i, i < n → f i = false) → cnt f n = 0
  | 0, _ => rfl
  | k + 1, h => by
    unfold cnt
    rw [cnt_none f k (fun i hi => h i (by omega)), h k (by omega)]
    rfl
theorem mem_iff (f : Nat → Bool) : ∀ n (x : Int), x ∈ mem f n ↔ ∃ i : Nat, i < n ∧ x = (i : Int) ∧ f i = true
  | 0, x => by simp [mem]
  | k + 1, x => by
    unfold mem
    rw [List.mem_append, mem_iff f k x]
    constructor
    · rintro (⟨i, hi, hx, hf⟩ | h)
      · exact ⟨i, by omega, hx, hf⟩
      · split at h
        · exact ⟨k, by omega, by simpa using h, by assumption⟩
        · simp at h
    · rintro ⟨i, hi, hx, hf⟩
      by_cases h : i = k
      · subst h
        right
        rw [if_pos hf]
        simp [hx]
      · exact .inl ⟨i, by omega, hx, hf⟩
theorem mem_more (f : Nat → Bool) (m : Nat) : ∀ n, m ≤ n → ∃ r, mem f n = mem f m ++ r
  | 0, h => ⟨[], by have : m = 0 := by omega
                    subst this; rfl⟩
  | k + 1, h => by
    by_cases e : m = k + 1
    · exact ⟨[], by rw [e, List.append_nil]⟩
    · obtain ⟨r, hr⟩ := mem_more f m k (by omega)
      exact ⟨r ++ (if f k then [(k : Int)] else []), by show mem f k ++ (if f k then [(k : Int)] else []) = _; rw [hr, List.append_assoc]⟩
theorem mem_skip (f : Nat → Bool) (m : Nat) : ∀ n, m ≤ n → (∀ i, m ≤ i → i < n → f i = false) → mem f n = mem f m
  | 0, h, _ => by have : m = 0 := by omega
                  subst this; rfl
  | k + 1, h, hf => by
    by_cases e : m = k + 1
    · rw [e]
    · have h1 := mem_skip f m k (by omega) (fun i h1 h2 => hf i h1 (by omega))
      show mem f k ++ (if f k then [(k : Int)] else []) = _
      rw [h1, hf k (by omega) (by omega)]
      simp
theorem cnt_mono (f : Nat → Bool) (m n : Nat) (h : m ≤ n) : cnt f m ≤ cnt f n := by
  obtain ⟨r, hr⟩ := mem_more f m n h
  rw [← mem_length, ← mem_length, hr, List.length_append]
  omega
theorem mem_sorted (f : Nat → Bool) : ∀ n i j (hi : i < (mem f n).length) (hj : j < (mem f n).length), i < j → (mem f n)[i] < (mem f n)[j]
  | 0, i, j, hi, _, _ => by simp [mem] at hi
  | k + 1, i, j, hi, hj, hij => by
    have hs : ∀ x ∈ mem f k, x < (k : Int) := fun x hx => by
      obtain ⟨q, hq, rfl, _⟩ := (mem_iff f k x).1 hx
      omega
    simp only [mem] at hi hj ⊢
    by_cases h1 : j < (mem f k).length
    · rw [List.getElem_append_left h1, List.getElem_append_left (by omega)]
      exact mem_sorted f k i j (by omega) h1 hij
    · have hfk : f k = true := by
        cases hf : f k with
        | true => rfl
        | false => rw [hf] at hj; simp at hj; omega
      simp only [hfk, if_true] at hi hj ⊢
      have hj2 : j = (mem f k).length := by simp at hj; omega
      subst hj2
      rw [List.getElem_append_right (Nat.le_refl _), List.getElem_append_left (by omega)]
      simp only [Nat.sub_self, List.getElem_cons_zero]
      exact hs _ (List.getElem_mem _)
def flip (f : Nat → Bool) (i : Nat) : Nat → Bool := fun j => if j = i then !f j else f j
theorem flip_same (f : Nat → Bool) (i : Nat) : flip f i i = !f i := if_pos rfl
theorem flip_other (f : Nat → Bool) {i j : Nat} (h : j ≠ i) : flip f i j = f j := if_neg h
theorem cnt_flip_out (f : Nat → Bool) (i : Nat) (n : Nat) (h : n ≤ i) : cnt (flip f i) n = cnt f n := cnt_congr n fun j hj => flip_other f (by omega)
theorem cnt_flip (f : Nat → Bool) (i : Nat) : ∀ n, i < n → (cnt (flip f i) n : Int) = (cnt f n : Int) + (if f i then -1 else 1)
  | 0, h => by omega
  | k + 1, h => by
    unfold cnt
    by_cases e : i = k
    · subst e
      rw [cnt_flip_out f i i (Nat.le_refl _), flip_same]
      cases f i <;> simp <;> omega
    · have := cnt_flip f i k (by omega)
      rw [flip_other f (fun h => e h.symm)]
      cases f k <;> simp <;> omega
def flips (f : Nat → Bool) (l : List Int) : Nat → Bool := l.foldl (fun f i => flip f i.toNat) f
theorem flips_append (f : Nat → Bool) (l m : List Int) : flips f (l ++ m) = flips (flips f l) m := by simp [flips]
theorem flips_one (f : Nat → Bool) (i : Int) : flips f [i] = flip f i.toNat := rfl
def Unlike (l : List Int) : Prop := l.Nodup ∧ ∀ x ∈ l, 0 ≤ x
theorem flips_at : ∀ (l : List Int) (f : Nat → Bool) (j : Nat), Unlike l → flips f l j = if (j : Int) ∈ l then !f j else f j
  | [], f, j, _ => by simp [flips]
  | x :: r, f, j, h => by
    have hr : Unlike r := ⟨(List.nodup_cons.1 h.1).2, fun y hy => h.2 y (List.mem_cons_of_mem _ hy)⟩
    have hx := h.2 x List.mem_cons_self
    have e : flips f (x :: r) = flips (flip f x.toNat) r := rfl
    rw [e, flips_at r _ j hr]
    by_cases hj : (j : Int) = x
    · have hn : (j : Int) ∉ r := fun hm => (List.nodup_cons.1 h.1).1 (by rw [← hj]; exact hm)
      rw [if_neg hn, if_pos (by rw [hj]; exact List.mem_cons_self)]
      have : x.toNat = j := by omega
      rw [this, flip_same]
    · have : j ≠ x.toNat := by omega
      rw [flip_other f this]
      by_cases hm : (j : Int) ∈ r
      · rw [if_pos hm, if_pos (List.mem_cons_of_mem _ hm)]
      · rw [if_neg hm, if_neg (fun h => by rcases List.mem_cons.1 h with h | h; exact hj h; exact hm h)]
theorem mem_unlike (f : Nat → Bool) (n : Nat) : Unlike (mem f n) := by
  refine ⟨?_, fun x hx => by obtain ⟨i, _, rfl, _⟩ := (mem_iff f n x).1 hx; omega⟩
  rw [List.nodup_iff_pairwise_ne, List.pairwise_iff_getElem]
  intro i j hi hj hij h
  have := mem_sorted f n i j hi hj hij
  omega
theorem take_cut (f : Nat → Bool) : ∀ (n k : Nat), k ≤ cnt f n → ∃ m, m ≤ n ∧ cnt f m = k ∧ (mem f n).take k = mem f m
  | 0, k, h => ⟨0, Nat.le_refl _, by simp only [cnt] at h ⊢; omega, by simp [mem]⟩
  | n + 1, k, h => by
    by_cases hk : k ≤ cnt f n
    · obtain ⟨m, hm, hc, ht⟩ := take_cut f n k hk
      refine ⟨m, by omega, hc, ?_⟩
      show (mem f n ++ (if f n then [(n : Int)] else [])).take k = _
      rw [List.take_append_of_le_length (by rw [mem_length]; exact hk), ht]
    · have hk2 : k = cnt f (n + 1) := by
        have h2 : cnt f (n + 1) = cnt f n + (if f n then 1 else 0) := rfl
        rw [h2] at h ⊢
        cases hf : f n with
        | true => rw [hf, if_pos rfl] at h; rw [if_pos rfl]; omega
        | false => rw [hf, if_neg (by decide)] at h; omega
      exact ⟨n + 1, Nat.le_refl _, hk2.symm, List.take_of_length_le (by rw [mem_length]; omega)⟩
def cutF (f : Nat → Bool) (m : Nat) : Nat → Bool := fun j => if j < m then false else f j
theorem flips_mem (f : Nat → Bool) (m : Nat) : flips f (mem f m) = cutF f m := by
  funext j
  rw [flips_at _ f j (mem_unlike f m)]
  unfold cutF
  by_cases hj : j < m
  · rw [if_pos hj]
    cases hf : f j with
    | true => rw [if_pos ((mem_iff f m _).2 ⟨j, hj, rfl, hf⟩)]; rfl
    | false => rw [if_neg (fun h => by obtain ⟨i, _, e, hi⟩ := (mem_iff f m _).1 h; rw [show j = i by omega, hi] at hf; cases hf)]
  · rw [if_neg hj, if_neg (fun h => by obtain ⟨i, hi, e, _⟩ := (mem_iff f m _).1 h; omega)]
theorem cnt_cut (f : Nat → Bool) (m : Nat) : ∀ n, m ≤ n → cnt (cutF f m) n + cnt f m = cnt f n
  | 0, h => by
    have : m = 0 := by omega
    subst this
    rfl
  | n + 1, h => by
    by_cases e : m = n + 1
    · subst e
      rw [cnt_none (cutF f (n + 1)) (n + 1) (fun i hi => if_pos hi), Nat.zero_add]
    · have h1 := cnt_cut f m n (by omega)
      show cnt (cutF f m) n + (if cutF f m n then 1 else 0) + cnt f m = cnt f n + (if f n then 1 else 0)
      have h2 : cutF f m n = f n := if_neg (by omega)
      rw [h2]
      omega
structure Rep (n : Nat) (f : Nat → Bool) (ws : List Nat) : Prop where
  len : ws.length = (n + 63) / 64
  lt : ∀ j, ws.getD j 0 < 2 ^ 64
  bit : ∀ i, i < 64 * ws.length → (ws.getD (i / 64) 0).testBit (i % 64) = f i
  out : ∀ i, n ≤ i → f i = false
theorem Rep.has {n : Nat} {f : Nat → Bool} {ws : List Nat} (h : Rep n f ws) (i : Nat) (hi : i < n) : (ws.getD (i / 64) 0).testBit (i % 64) = f i := h.bit i (by have := h.len; omega)
theorem getD_set (ws : List Nat) (i j : Nat) (x : Nat) (hi : i < ws.length) : (ws.set i x).getD j 0 = if j = i then x else ws.getD j 0 := by
  rw [List.getD_eq_getElem?_getD, List.getD_eq_getElem?_getD]
  by_cases h : j = i
  · subst h
    rw [if_pos rfl, List.getElem?_set_self hi]
    rfl
  · rw [if_neg h, List.getElem?_set_ne (fun e => h e.symm)]
theorem Rep.turn {n : Nat} {f : Nat → Bool} {ws : List Nat} (h : Rep n f ws) (i : Nat) (hi : i < n) : Rep n (flip f i) (ws.set (i / 64) (ws.getD (i / 64) 0 ^^^ 2 ^ (i % 64))) := by
  have hl := h.len
  have hil : i / 64 < ws.length := by omega
  refine ⟨by rw [List.length_set]; exact hl, fun j => ?_, fun k hk => ?_, fun k hk => ?_⟩
  · rw [getD_set _ _ _ _ hil]
    split
    · exact Nat.xor_lt_two_pow (h.lt _) (Nat.pow_lt_pow_right (by decide) (by omega))
    · exact h.lt j
  · rw [List.length_set] at hk
    rw [getD_set _ _ _ _ hil]
    have hb := h.bit k hk
    by_cases hki : k / 64 = i / 64
    · rw [if_pos hki, Nat.testBit_xor, Nat.testBit_two_pow, ← hki, hb]
      unfold flip
      by_cases e : k = i
      · subst e; simp
      · have : i % 64 ≠ k % 64 := by omega
        simp [e, this]
    · rw [if_neg hki, hb, flip_other f (by intro e; rw [e] at hki; exact hki rfl)]
  · rw [flip_other f (by omega)]
    exact h.out k hk
def setF (f : Nat → Bool) (i : Nat) : Nat → Bool := fun j => if j = i then true else f j
theorem Rep.put {n : Nat} {f : Nat → Bool} {ws : List Nat} (h : Rep n f ws) (i : Nat) (hi : i < n) : Rep n (setF f i) (ws.set (i / 64) (ws.getD (i / 64) 0 ||| 2 ^ (i % 64))) := by
  have hl := h.len
  have hil : i / 64 < ws.length := by omega
  refine ⟨by rw [List.length_set]; exact hl, fun j => ?_, fun k hk => ?_, fun k hk => ?_⟩
  · rw [getD_set _ _ _ _ hil]
    split
    · exact Nat.or_lt_two_pow (h.lt _) (Nat.pow_lt_pow_right (by decide) (by omega))
    · exact h.lt j
  · rw [List.length_set] at hk
    rw [getD_set _ _ _ _ hil]
    have hb := h.bit k hk
    by_cases hki : k / 64 = i / 64
    · rw [if_pos hki, Nat.testBit_or, Nat.testBit_two_pow, ← hki, hb]
      unfold setF
      by_cases e : k = i
      · subst e; simp
      · have : i % 64 ≠ k % 64 := by omega
        simp [e, this]
    · rw [if_neg hki, hb]
      exact (if_neg (by intro e; rw [e] at hki; exact hki rfl)).symm
  · unfold setF
    rw [if_neg (by omega)]
    exact h.out k hk
def upTo (i : Nat) : Nat → Bool := fun j => decide (j < i)
theorem setF_upTo (i : Nat) : setF (upTo i) i = upTo (i + 1) := by
  funext j
  unfold setF upTo
  by_cases h : j = i
  · rw [if_pos h, decide_eq_true (by omega)]
  · rw [if_neg h]
    by_cases h2 : j < i
    · rw [decide_eq_true h2, decide_eq_true (by omega)]
    · rw [decide_eq_false h2, decide_eq_false (by omega)]
theorem Rep.zero (n : Nat) : Rep n (upTo 0) (List.replicate ((n + 63) / 64) 0) := by
  have hz : ∀ j, (List.replicate ((n + 63) / 64) 0).getD j 0 = 0 := fun j => by
    rw [List.getD_eq_getElem?_getD, List.getElem?_replicate]
    split <;> rfl
  refine ⟨by simp, fun j => by rw [hz]; decide, fun i _ => by rw [hz]; simp [upTo], fun i _ => by simp [upTo]⟩
theorem cnt_upTo (n : Nat) : cnt (upTo n) n = n := cnt_all _ n fun i hi => decide_eq_true hi
theorem low_bit (w : Nat) (h0 : w ≠ 0) (h : w < 2 ^ 64) : Lib.ctz 64 w < 64 ∧ w.testBit (Lib.ctz 64 w) = true ∧ (∀ i, i < Lib.ctz 64 w → w.testBit i = false) ∧ ∀ i, (w &&& (w - 1)).testBit i = (w.testBit i && decide (i ≠ Lib.ctz 64 w)) := by
  obtain ⟨m, hm, hk⟩ := Lib.ctzFrom_spec 64 w (Nat.pos_of_ne_zero h0) h
  unfold Lib.ctz
  rw [if_neg h0]
  generalize Lib.ctzFrom 64 w = t at hm hk
  have hw : ∀ i, w.testBit i = (decide (t ≤ i) && (2 * m + 1).testBit (i - t)) := fun i => by rw [hm, Nat.mul_comm, Nat.testBit_mul_two_pow]
  have hw1 : w - 1 = 2 ^ t * (2 * m) + (2 ^ t - 1) := by
    rw [hm, Nat.mul_add, Nat.mul_one]
    have := Nat.two_pow_pos t
    omega
  have hv : ∀ i, (w - 1).testBit i = if i < t then (2 ^ t - 1).testBit i else (2 * m).testBit (i - t) := fun i => by
    rw [hw1, Nat.testBit_two_pow_mul_add _ (by have := Nat.two_pow_pos t; omega)]
  refine ⟨hk, ?_, fun i hi => ?_, fun i => ?_⟩
  · rw [hw]
    simp [Nat.testBit_zero]
  · rw [hw]
    simp [show ¬ t ≤ i by omega]
  · rw [Nat.testBit_and, hw, hv]
    by_cases h1 : i < t
    · simp [show ¬ t ≤ i by omega]
    · rw [if_neg h1]
      by_cases h2 : i = t
      · subst h2
        simp [Nat.testBit_zero]
      · obtain ⟨q, rfl⟩ : ∃ q, i = t + (q + 1) := ⟨i - t - 1, by omega⟩
        have e1 : t + (q + 1) - t = q + 1 := by omega
        rw [e1, Nat.testBit_succ, Nat.testBit_succ]
        have d1 : (2 * m + 1) / 2 = m := by omega
        have d2 : 2 * m / 2 = m := by omega
        rw [d1, d2]
        simp
end Go.Proofs.YtdjjmmndfbffcaaDoor.FM

namespace Go.Proofs.YtdjjmmndfbffcaaDoor.FM
open Go.RowKit Go.Proofs.YtdjjmmndfbffcaaDoorW.PrintWords Go.Proofs.YtdjjmmndfbffcaaDoorW.PrintLast Go.Proofs.YtdjjmmndfbffcaaDoorW.PrintMore
set_option linter.unusedVariables false
set_option linter.unusedSimpArgs false
def ints (ws : List Nat) : List Int := ws.map fun (x : Nat) => (x : Int)
theorem rd_ints (ws : List Nat) (j : Nat) : rd (ints ws) (j : Int) = ((ws.getD j 0 : Nat) : Int) := by
  unfold rd ints
  rw [Int.toNat_natCast, List.getD_eq_getElem?_getD, List.getD_eq_getElem?_getD, List.getElem?_map]
  cases ws[j]? <;> rfl
theorem ints_set (ws : List Nat) (j x : Nat) : (ints ws).set j (x : Int) = ints (ws.set j x) := by unfold ints; rw [List.map_set]
theorem gset {a w : World} {b : Nat} (h : a.grownBy w (some b)) (i : Nat) (v : Value) : a.grownBy (w.setCell ⟨b, i, none⟩ v) (some b) :=
  ⟨h.os, h.tape, h.output, Nat.le_trans h.size (by simp [World.setCell]), fun k hk hne => (Below.heap_setCell w _ _ k (by intro e; exact hne (by rw [e]))).trans (h.block k hk hne)⟩
structure Only (g A : Nat) (w w' : World) : Prop where
  os : w'.os = w.os
  tape : w'.tape = w.tape
  output : w'.output = w.output
  size : w.heap.size ≤ w'.heap.size
  block : ∀ k, k < w.heap.size → k ≠ g → k ≠ A → w'.heap[k]? = w.heap[k]?
theorem Only.refl (g A : Nat) (w : World) : Only g A w w := ⟨rfl, rfl, rfl, Nat.le_refl _, fun _ _ _ _ => rfl⟩
theorem Only.trans {g A : Nat} {a b c : World} (h : Only g A a b) (k : Only g A b c) : Only g A a c :=
  ⟨k.os.trans h.os, k.tape.trans h.tape, k.output.trans h.output, Nat.le_trans h.size k.size, fun i hi h1 h2 => (k.block i (Nat.lt_of_lt_of_le hi h.size) h1 h2).trans (h.block i hi h1 h2)⟩
theorem Only.of {g A n : Nat} {a b : World} (h : Below n a b) (hn : a.heap.size ≤ n) : Only g A a b := ⟨h.os, h.tape, h.output, h.size, fun k hk _ _ => h.block k (Nat.lt_of_lt_of_le hk hn)⟩
theorem Only.grown {g A : Nat} {a b : World} {r : Nat} (h : a.grownBy b (some r)) (hr : r = g ∨ r = A ∨ a.heap.size ≤ r) : Only g A a b :=
  ⟨h.os, h.tape, h.output, h.size, fun k hk h1 h2 => h.block k hk (fun e => by injection e with e; rcases hr with rfl | rfl | hr; exact h1 e; exact h2 e; omega)⟩
theorem Only.below {g A base : Nat} {a b c : World} (h : Below base a b) (o : Only g A b c) (hb : base ≤ b.heap.size) (hg : base ≤ g) (hA : base ≤ A) : Below base a c :=
  ⟨o.os.trans h.os, o.tape.trans h.tape, o.output.trans h.output, Nat.le_trans h.size o.size, fun k hk => (o.block k (Nat.lt_of_lt_of_le hk hb) (by omega) (by omega)).trans (h.block k hk)⟩
theorem Only.drew {g A : Nat} {a b : World} (h : Only g A a b) : Only g A a b.drew := ⟨h.os, h.tape, h.output, h.size, h.block⟩
structure FmAt (W : World) (g A c n : Nat) (f : Nat → Bool) (ws : List Nat) : Prop where
  blk : W.heap[g]? = some (.cells #[.int .i64 (n : Int), .int .i64 (cnt f n : Int), .slice (some ⟨A, 0, none⟩) ws.length c] 54 (0, 0))
  row : W.ownsRow 0 56 1 (.slice (some ⟨A, 0, none⟩) ws.length c) ws.length (nums .u64 (ints ws))
  ne : g ≠ A
  rep : Rep n f ws
  nn : 256 ≤ n ∧ n ≤ 131072
theorem FmAt.lt {W : World} {g A c n : Nat} {f : Nat → Bool} {ws : List Nat} (h : FmAt W g A c n f ws) : g < W.heap.size ∧ A < W.heap.size := ⟨blk_lt h.blk, own_lt h.row A rfl⟩
theorem FmAt.move {W W' : World} {g A c n : Nat} {f : Nat → Bool} {ws : List Nat} (h : FmAt W g A c n f ws) (hg : W'.heap[g]? = W.heap[g]?) (hA : W'.heap[A]? = W.heap[A]?) : FmAt W' g A c n f ws :=
  ⟨hg.trans h.blk, own_move h.row (fun k hk => by
    have : A = k := by injection hk
    rw [← this]; exact hA), h.ne, h.rep, h.nn⟩
theorem FmAt.below {W W' : World} {g A c n : Nat} {f : Nat → Bool} {ws : List Nat} (h : FmAt W g A c n f ws) {m : Nat} (hb : Below m W W') (hm : W.heap.size ≤ m) : FmAt W' g A c n f ws :=
  h.move (hb.block g (by have := h.lt; omega)) (hb.block A (by have := h.lt; omega))
theorem FmAt.only {W W' : World} {g A c n : Nat} {f : Nat → Bool} {ws : List Nat} (h : FmAt W g A c n f ws) {g' A' : Nat} (o : Only g' A' W W') (h1 : g ≠ g') (h2 : g ≠ A') (h3 : A ≠ g') (h4 : A ≠ A') : FmAt W' g A c n f ws :=
  h.move (o.block g h.lt.1 h1 h2) (o.block A h.lt.2 h3 h4)
theorem FmAt.alloc {W : World} {g A c n : Nat} {f : Nat → Bool} {ws : List Nat} (h : FmAt W g A c n f ws) (o : Obj) : FmAt (W.alloc o) g A c n f ws := h.below (below_alloc (Below.refl W.heap.size W) o) (Nat.le_refl _)
theorem FmAt.drew {W : World} {g A c n : Nat} {f : Nat → Bool} {ws : List Nat} (h : FmAt W g A c n f ws) : FmAt W.drew g A c n f ws := ⟨h.blk, h.row, h.ne, h.rep, h.nn⟩
theorem FmAt.word {W : World} {g A c n : Nat} {f : Nat → Bool} {ws : List Nat} (h : FmAt W g A c n f ws) (j : Nat) (hj : j < ws.length) : W.cell? ⟨A, j, none⟩ = some (.int .u64 ((ws.getD j 0 : Nat) : Int)) ∧ W.frozen? ⟨A, j, none⟩ = false := by
  have := own_at h.row (j : Int) (by omega) (by omega)
  rwa [Int.toNat_natCast, rd_ints] at this
theorem word_store {W : World} {A c : Nat} {ws : List Nat} (h : W.ownsRow 0 56 1 (.slice (some ⟨A, 0, none⟩) ws.length c) ws.length (nums .u64 (ints ws))) (j x : Nat) :
    (W.setCell ⟨A, j, none⟩ (.int .u64 (x : Int))).ownsRow 0 56 1 (.slice (some ⟨A, 0, none⟩) (ws.set j x).length c) (ws.set j x).length (nums .u64 (ints (ws.set j x))) := by
  have := (own_store h (j : Int) (x : Int)).1
  rw [Int.toNat_natCast, ints_set] at this
  rw [show (ws.set j x).length = ws.length from List.length_set]
  exact this
theorem FmAt.cells {W : World} {g A c n : Nat} {f : Nat → Bool} {ws : List Nat} (h : FmAt W g A c n f ws) : W.cell? ⟨g, 0, none⟩ = some (.int .i64 (n : Int)) ∧ W.cell? ⟨g, 1, none⟩ = some (.int .i64 (cnt f n : Int)) ∧ W.cell? ⟨g, 2, none⟩ = some (.slice (some ⟨A, 0, none⟩) ws.length c) :=
  ⟨blk_cell h.blk 0, blk_cell h.blk 1, blk_cell h.blk 2⟩
set_option maxHeartbeats 1000000 in
set_option maxRecDepth 100000 in
theorem is_calls {W : World} {g A c n : Nat} {f : Nat → Bool} {ws : List Nat} (h : FmAt W g A c n f ws) :
    Calls Tryd.prog 36 #[.pointer (some ⟨g, 0, none⟩)] W fun e w' => e = .returned (.bool true) ∧ Below W.heap.size W w' := by
  obtain ⟨c0, _, _⟩ := h.cells
  have hd : decide (0 < n) = true := decide_eq_true (by have := h.nn; omega)
  clear h
  go_enter Tryd.func36, Tryd.ntmps36
  go_wp2
  go_ret
  exact ⟨rfl, Below.refl _ _⟩
theorem bit_test (x e : Nat) (hx : x < 2 ^ 64) : (bits .and .u64 ((x : Int) / 2 ^ e) 1 == 1) = x.testBit e := by
  have h1 : ((x : Int) / 2 ^ e) = ((x / 2 ^ e : Nat) : Int) := by push_cast; rfl
  have h2 : x / 2 ^ e < 18446744073709551616 := Nat.lt_of_le_of_lt (Nat.div_le_self _ _) hx
  rw [h1, show (1 : Int) = ((1 : Nat) : Int) from rfl, u64_and_nat _ 1 h2 (by decide), Nat.and_one_is_mod, Nat.testBit_eq_decide_div_mod_eq]
  by_cases h : x / 2 ^ e % 2 = 1
  · rw [decide_eq_true h, h]; rfl
  · rw [decide_eq_false h]
    have : x / 2 ^ e % 2 = 0 := by omega
    rw [this]; rfl
theorem pow_u64 (e : Nat) (he : e < 64) : IntKind.u64.wrap ((2 : Int) ^ min e 64) = ((2 ^ e : Nat) : Int) := by
  have h1 : (2 : Int) ^ min e 64 = ((2 ^ e : Nat) : Int) := by rw [Nat.min_eq_left (by omega)]; push_cast; rfl
  have h2 : 2 ^ e < 18446744073709551616 := Nat.pow_lt_pow_right (n := 64) (by decide) he
  generalize 2 ^ e = q at h1 h2 ⊢
  rw [h1, IntKind.wrap_u64]
  omega
theorem xor_word (x e : Nat) (hx : x < 2 ^ 64) (he : e < 64) : bits .xor .u64 (x : Int) ((2 ^ e : Nat) : Int) = ((x ^^^ 2 ^ e : Nat) : Int) := u64_xor_nat _ _ hx (Nat.pow_lt_pow_right (n := 64) (by decide) he)
theorem or_word (x e : Nat) (hx : x < 2 ^ 64) (he : e < 64) : bits .or .u64 (x : Int) ((2 ^ e : Nat) : Int) = ((x ||| 2 ^ e : Nat) : Int) := u64_or_nat _ _ hx (Nat.pow_lt_pow_right (n := 64) (by decide) he)
theorem pick {n : Nat} {f : Nat → Bool} {ws : List Nat} (hn : n ≤ 131072) (h : Rep n f ws) (k : Nat) (hk : k < n) :
    ∃ x j e L : Nat, ws.getD j 0 = x ∧ ws.length = L ∧ k / 64 = j ∧ k % 64 = e ∧ wrap64 ((k : Int) / 64) = (j : Int) ∧ (k : Int) % 64 = (e : Int) ∧ Int.tmod (k : Int) 64 = (e : Int) ∧ (0 ≤ (j : Int)) = True ∧ ((j : Int) < (L : Int)) = True ∧ (0 ≤ (e : Int)) = True ∧ ((e : Int) < 0) = False ∧ x < 2 ^ 64 ∧ x.testBit e = f k ∧ e < 64 := by
  refine ⟨ws.getD (k / 64) 0, k / 64, k % 64, ws.length, rfl, rfl, rfl, rfl, by unfold wrap64; omega, by omega, by rw [Int.tmod_eq_emod_of_nonneg (by omega)]; omega, eq_true (by omega), eq_true (by have := h.len; omega), eq_true (by omega), eq_false (by omega), h.lt _, h.has k hk, by omega⟩
def hasF (f : Nat → Bool) (i : Int) : Bool := decide (0 ≤ i) && f i.toNat
set_option maxHeartbeats 1000000 in
set_option maxRecDepth 100000 in
theorem has_calls {W : World} {g A c n : Nat} {f : Nat → Bool} {ws : List Nat} (h : FmAt W g A c n f ws) (i : Int) :
    Calls Tryd.prog 16 #[.pointer (some ⟨g, 0, none⟩), .int .i64 i] W fun e w' => e = .returned (.bool (hasF f i)) ∧ Below W.heap.size W w' := by
  have HF := Lib.hid h
  have HI := Lib.hid (fun (V : World) (h : FmAt V g A c n f ws) => is_calls h)
  clear h
  by_cases h0 : 0 ≤ i
  · obtain ⟨k, rfl⟩ : ∃ k : Nat, i = (k : Int) := ⟨i.toNat, by omega⟩
    by_cases h1 : k < n
    · have hd2 : decide (k < n) = true := decide_eq_true h1
      go_enter Tryd.func16, Tryd.ntmps16
      go_wp2_with fail
      refine (HI.out _ HF.out).mono ?_; rintro e w1 ⟨rfl, hb1⟩
      have HF1 := Lib.hid (HF.out.below hb1 (Nat.le_refl _))
      obtain ⟨c0, c1, c2⟩ := HF1.out.cells
      have HB := Lib.hid hb1
      obtain ⟨x, j, e, L, hx, hL, hjj, hee, hj, he, he2, p1, p2, p3, p4, hX, hBit, hE⟩ := pick HF.out.nn.2 HF.out.rep k h1
      obtain ⟨cw, fw⟩ := HF1.out.word j (by have := of_eq_true p2; rw [hL]; omega)
      have hbt := bit_test x e hX
      rw [hBit] at hbt
      have hr : hasF f (k : Int) = f k := by unfold hasF; rw [Int.toNat_natCast, decide_eq_true h0, Bool.true_and]
      rw [hx] at cw
      rw [hL] at c2
      clear hb1 hx hL hjj hee hX hBit
      go_wp2
      go_ret
      rw [hr]
      exact ⟨rfl, HB.out⟩
    · have hf : f k = false := HF.out.rep.out k (by omega)
      have hr : hasF f (k : Int) = false := by unfold hasF; rw [Int.toNat_natCast, hf, Bool.and_false]
      have hd2 : decide (k < n) = false := decide_eq_false h1
      go_enter Tryd.func16, Tryd.ntmps16
      go_wp2_with fail
      refine (HI.out _ HF.out).mono ?_; rintro e w1 ⟨rfl, hb1⟩
      have HF1 := Lib.hid (HF.out.below hb1 (Nat.le_refl _))
      obtain ⟨c0, c1, c2⟩ := HF1.out.cells
      have HB := Lib.hid hb1
      clear hb1 hf
      go_wp2
      go_ret
      rw [hr]
      exact ⟨rfl, HB.out⟩
  · have hr : hasF f i = false := by unfold hasF; rw [decide_eq_false h0, Bool.false_and]
    have hd : decide (0 ≤ i) = false := decide_eq_false h0
    go_enter Tryd.func16, Tryd.ntmps16
    go_wp2_with fail
    refine (HI.out _ HF.out).mono ?_; rintro e w1 ⟨rfl, hb1⟩
    have HB := Lib.hid hb1
    clear hb1
    go_wp2
    go_ret
    rw [hr]
    exact ⟨rfl, HB.out⟩
end Go.Proofs.YtdjjmmndfbffcaaDoor.FM

namespace Go.Proofs.YtdjjmmndfbffcaaDoor.FM
open Go.RowKit Go.Proofs.YtdjjmmndfbffcaaDoorW.PrintWords Go.Proofs.YtdjjmmndfbffcaaDoorW.PrintLast Go.Proofs.YtdjjmmndfbffcaaDoorW.PrintMore
set_option linter.unusedVariables false
set_option linter.unusedSimpArgs false
set_option maxHeartbeats 1000000 in
set_option maxRecDepth 100000 in
theorem turn_calls {W : World} {g A c n : Nat} {f : Nat → Bool} {ws : List Nat} (h : FmAt W g A c n f ws) (k : Nat) (hk : k < n) :
    Calls Tryd.prog 39 #[.pointer (some ⟨g, 0, none⟩), .int .i64 (k : Int)] W fun e w' => e = .returned (.tuple #[]) ∧ (∃ ws', FmAt w' g A c n (flip f k) ws') ∧ Only g A W w' := by
  have HF := Lib.hid h
  clear h
  obtain ⟨c0, c1, c2⟩ := HF.out.cells
  have b0 := blk_frozen HF.out.blk
  obtain ⟨x, j, e, L, hx, hL, hjj, hee, hj, he, he2, p1, p2, p3, p4, hX, hBit, hE⟩ := pick HF.out.nn.2 HF.out.rep k hk
  obtain ⟨cw, fw⟩ := HF.out.word j (by have := of_eq_true p2; rw [hL]; omega)
  rw [hx] at cw
  rw [hL] at c2
  have HX := Lib.hid hx
  have HJ := Lib.hid hjj
  have HE := Lib.hid hee
  have hxw : bits .xor .u64 (x : Int) (IntKind.u64.wrap ((2 : Int) ^ e)) = ((x ^^^ 2 ^ e : Nat) : Int) := by
    have := pow_u64 e hE
    rw [Nat.min_eq_left (by omega)] at this
    rw [this]
    exact xor_word x e hX hE
  have hyl : x ^^^ 2 ^ e < 2 ^ 64 := Nat.xor_lt_two_pow hX (Nat.pow_lt_pow_right (by decide) hE)
  have hyb : (x ^^^ 2 ^ e).testBit e = !f k := by rw [Nat.testBit_xor, hBit, Nat.testBit_two_pow]; simp
  obtain ⟨y, hy⟩ : ∃ y, x ^^^ 2 ^ e = y := ⟨_, rfl⟩
  rw [hy] at hxw hyl hyb
  have HY := Lib.hid hy
  have hbt := bit_test y e hyl
  rw [hyb] at hbt
  obtain ⟨m, hm⟩ : ∃ m : Int, (cnt f n : Int) = m := ⟨_, rfl⟩
  have HM := Lib.hid hm
  have hmr : 0 ≤ m ∧ m ≤ 131072 := by have := cnt_le f n; have := HF.out.nn; omega
  have hw1 : wrap64 (m - 1) = m - 1 := by unfold wrap64; omega
  have hw2 : wrap64 (m - 1 + 2) = m + 1 := by unfold wrap64; omega
  rw [hm] at c1
  have HC := Lib.hid (cnt_flip f k n hk)
  have HR := Lib.hid (word_store HF.out.row j y)
  have HRep := Lib.hid (HF.out.rep.turn k hk)
  rw [hjj, hee, hx, hy] at HRep
  have HK : Hid (W.heap[g]? = some (.cells #[.int .i64 (n : Int), .int .i64 m, .slice (some ⟨A, 0, none⟩) L c] 54 (0, 0))) := Lib.hid (by rw [← hm, ← hL]; exact HF.out.blk)
  have HNE := Lib.hid HF.out.ne
  have HNN := Lib.hid HF.out.nn
  have HLT := Lib.hid HF.out.lt
  have HLw := Lib.hid hL
  clear hx hL hjj hee hX hBit hyl hyb hy hm
  go_enter Tryd.func39, Tryd.ntmps39
  go_upto_region 0 with fail
  refine start_ (n := 14) (S := fun w' => w'.cell? ⟨g, 2, none⟩ = some (.slice (some ⟨A, 0, none⟩) L c) ∧ w'.cell? ⟨A, j, none⟩ = some (.int .u64 (x : Int))) (ds := [13]) #[false, false, false, false, false, false, false, false, false, false, false, false, false, false] (by kernel_rfl) rfl rfl ⟨c2, cw⟩ (fun hHeld => ?_)
  refine pure_ (i := 0) (N := some 4) (v := ?_) (a' := ?_) #[true, false, false, false, false, false, false, false, false, false, false, false, false, false] rfl rfl (by kernel_rfl) (fun _ _ _ h => h) (Or.inl ⟨by rfl, ?_⟩) ?_ ?_
  rotate_left
  · intro w'
    go_simp
    with_reducible rfl
  rotate_left
  · simp only [Act.put, List.setIfInBounds_toArray, List.set_cons_zero, List.set_cons_succ, i64_w, i32_w]
    rfl
  refine pure_ (i := 1) (N := some 5) (v := ?_) (a' := ?_) #[true, true, false, false, false, false, false, false, false, false, false, false, false, false] rfl rfl (by kernel_rfl) (fun _ _ _ h => h) (Or.inl ⟨by rfl, ?_⟩) ?_ ?_
  rotate_left
  · intro w'
    go_simp
    with_reducible rfl
  rotate_left
  · simp only [Act.put, List.setIfInBounds_toArray, List.set_cons_zero, List.set_cons_succ, i64_w, i32_w]
    rfl
  refine pure_ (i := 2) (N := some 6) (v := ?_) (a' := ?_) #[true, true, true, false, false, false, false, false, false, false, false, false, false, false] rfl rfl (by kernel_rfl) (fun _ _ _ h => h) (Or.inl ⟨by rfl, ?_⟩) ?_ ?_
  rotate_left
  · intro w'
    go_simp
    with_reducible rfl
  rotate_left
  · simp only [Act.put, List.setIfInBounds_toArray, List.set_cons_zero, List.set_cons_succ, i64_w, i32_w]
    rfl
  refine pure_ (i := 4) (N := some 8) (v := ?_) (a' := ?_) #[true, true, true, false, true, false, false, false, false, false, false, false, false, false] rfl rfl (by kernel_rfl) (fun _ _ _ h => h) (Or.inl ⟨by rfl, ?_⟩) ?_ ?_
  rotate_left
  · intro w'
    go_simp
    with_reducible rfl
  rotate_left
  · simp only [Act.put, List.setIfInBounds_toArray, List.set_cons_zero, List.set_cons_succ, i64_w, i32_w]
    rfl
  refine pure_ (i := 5) (N := some 9) (v := ?_) (a' := ?_) #[true, true, true, false, true, true, false, false, false, false, false, false, false, false] rfl rfl (by kernel_rfl) (fun _ _ _ h => h) (Or.inl ⟨by rfl, ?_⟩) ?_ ?_
  rotate_left
  · intro w'
    go_simp
    with_reducible rfl
  rotate_left
  · simp only [Act.put, List.setIfInBounds_toArray, List.set_cons_zero, List.set_cons_succ, i64_w, i32_w]
    rfl
  refine pure_ (i := 8) (N := some 12) (v := ?_) (a' := ?_) #[true, true, true, false, true, true, false, false, true, false, false, false, false, false] rfl rfl (by kernel_rfl) (fun _ _ _ h => h) (Or.inl ⟨by rfl, ?_⟩) ?_ ?_
  rotate_left
  · intro w'
    go_simp
    with_reducible rfl
  rotate_left
  · simp only [Act.put, List.setIfInBounds_toArray, List.set_cons_zero, List.set_cons_succ, i64_w, i32_w]
    rfl
  refine pure_ (i := 9) (N := some 13) (v := ?_) (a' := ?_) #[true, true, true, false, true, true, false, false, true, true, false, false, false, false] rfl rfl (by kernel_rfl) (fun _ _ _ h => h) (Or.inl ⟨by rfl, ?_⟩) ?_ ?_
  rotate_left
  · intro w'
    go_simp
    with_reducible rfl
  rotate_left
  · simp only [Act.put, List.setIfInBounds_toArray, List.set_cons_zero, List.set_cons_succ, i64_w, i32_w]
    rfl
  refine pure_ (i := 10) (N := some 14) (v := ?_) (a' := ?_) #[true, true, true, false, true, true, false, false, true, true, true, false, false, false] rfl rfl (by kernel_rfl) (fun _ _ _ h => h) (Or.inl ⟨by rfl, ?_⟩) ?_ ?_
  rotate_left
  · intro w'
    go_simp
    with_reducible rfl
  rotate_left
  · simp only [Act.put, List.setIfInBounds_toArray, List.set_cons_zero, List.set_cons_succ, i64_w, i32_w]
    rfl
  refine take_ (i := 3) (N := some 7) (v := ?_) (a' := ?_) #[true, true, true, true, true, true, false, false, true, true, true, false, false, false] rfl rfl (by kernel_rfl) (fun _ _ _ h => h) (Or.inl ⟨by rfl, ?_⟩) hHeld ?_ ?_
  rotate_left
  · rintro w' ⟨s0, s1⟩
    go_simp
    with_reducible rfl
  rotate_left
  · simp only [Act.put, List.setIfInBounds_toArray, List.set_cons_zero, List.set_cons_succ, i64_w, i32_w]
    rfl
  refine pure_ (i := 6) (N := some 10) (v := ?_) (a' := ?_) #[true, true, true, true, true, true, true, false, true, true, true, false, false, false] rfl rfl (by kernel_rfl) (fun _ _ _ h => h) (Or.inl ⟨by rfl, ?_⟩) ?_ ?_
  rotate_left
  · intro w'
    go_simp
    with_reducible rfl
  rotate_left
  · simp only [Act.put, List.setIfInBounds_toArray, List.set_cons_zero, List.set_cons_succ, i64_w, i32_w]
    rfl
  refine take_ (i := 7) (N := some 11) (v := ?_) (a' := ?_) #[true, true, true, true, true, true, true, true, true, true, true, false, false, false] rfl rfl (by kernel_rfl) (fun _ _ _ h => h) (Or.inl ⟨by rfl, ?_⟩) hHeld ?_ ?_
  rotate_left
  · rintro w' ⟨s0, s1⟩
    go_simp
    with_reducible rfl
  rotate_left
  · simp only [Act.put, List.setIfInBounds_toArray, List.set_cons_zero, List.set_cons_succ, i64_w, i32_w]
    rfl
  refine pure_ (i := 11) (N := some 15) (v := ?_) (a' := ?_) #[true, true, true, true, true, true, true, true, true, true, true, true, false, false] rfl rfl (by kernel_rfl) (fun _ _ _ h => h) (Or.inl ⟨by rfl, ?_⟩) ?_ ?_
  rotate_left
  · intro w'
    go_simp
    with_reducible rfl
  rotate_left
  · simp only [Act.put, List.setIfInBounds_toArray, List.set_cons_zero, List.set_cons_succ, i64_w, i32_w]
    rfl
  refine pure_ (i := 12) (N := some 16) (v := ?_) (a' := ?_) #[true, true, true, true, true, true, true, true, true, true, true, true, true, false] rfl rfl (by kernel_rfl) (fun _ _ _ h => h) (Or.inl ⟨by rfl, ?_⟩) ?_ ?_
  rotate_left
  · intro w'
    go_simp
    with_reducible rfl
  rotate_left
  · simp only [Act.put, List.setIfInBounds_toArray, List.set_cons_zero, List.set_cons_succ, i64_w, i32_w]
    rfl
  refine last_ (i := 13) (N := none) #[true, true, true, true, true, true, true, true, true, true, true, true, true, true] rfl rfl (by kernel_rfl) (by decide) (fun K hK => ?_)
  refine skip_ (w1 := ?_) (by rfl) rfl ?_ ?_
  rotate_left
  · go_simp
    rfl
  refine hK.out _ _ ?_
  clear hK K
  refine done_ (by kernel_rfl) ?_
  have HO1 := Lib.hid (Only.drew (Only.grown (g := g) (A := A) (gset (World.grownBy.refl W (some A)) j (.int .u64 (y : Int))) (.inr (.inl rfl))))
  have HK2 : Hid ((W.setCell ⟨A, j, none⟩ (.int .u64 (y : Int))).drew.heap[g]? = some (.cells #[.int .i64 (n : Int), .int .i64 m, .slice (some ⟨A, 0, none⟩) L c] 54 (0, 0))) := Lib.hid ((Below.heap_setCell W _ _ g HNE.out).trans HK.out)
  have HW1 : Hid ((W.setCell ⟨A, j, none⟩ (.int .u64 (y : Int))).drew.cell? ⟨A, j, none⟩ = some (.int .u64 (y : Int))) := Lib.hid (World.cell?_setCell_same W ⟨A, j, none⟩ (.int .u64 (y : Int)) cw)
  have HR1 := Lib.hid (own_drew HR.out)
  obtain ⟨W1, hW1⟩ : ∃ V, (W.setCell ⟨A, j, none⟩ (.int .u64 (y : Int))).drew = V := ⟨_, rfl⟩
  rw [hW1] at HO1 HK2 HR1 HW1
  rw [hW1]
  clear c0 c1 c2 cw fw b0 hHeld hW1 hxw HR HK
  have c1 := blk_cell HK2.out 1
  simp only [List.getElem?_toArray, List.getElem?_cons_succ, List.getElem?_cons_zero] at c1
  have b0 := blk_frozen HK2.out
  go_upto_region 2 with fail
  have HK3 := Lib.hid (blk_put HK2.out 1 (.int .i64 (m - 1)) (cs' := #[.int .i64 (n : Int), .int .i64 (m - 1), .slice (some ⟨A, 0, none⟩) L c]) rfl)
  have HO2 := Lib.hid (HO1.out.trans (Only.grown (g := g) (A := A) (gset (World.grownBy.refl W1 (some g)) 1 (.int .i64 (m - 1))) (.inl rfl)))
  have HA2 : Hid ((W1.setCell ⟨g, 1, none⟩ (.int .i64 (m - 1))).heap[A]? = W1.heap[A]?) := Lib.hid (Below.heap_setCell W1 _ _ A (fun e => HNE.out e.symm))
  obtain ⟨W3, hW3⟩ : ∃ V, W1.setCell ⟨g, 1, none⟩ (.int .i64 (m - 1)) = V := ⟨_, rfl⟩
  rw [hW3] at HK3 HO2 HA2
  rw [hW3]
  have HR3 := Lib.hid (own_move HR1.out (w1 := W3) (fun k hk => by
    have : A = k := by injection hk
    rw [← this]; exact HA2.out))
  have c2 := blk_cell HK3.out 2
  have c1' := blk_cell HK3.out 1
  simp only [List.getElem?_toArray, List.getElem?_cons_succ, List.getElem?_cons_zero] at c1' c2
  have cw : W3.cell? ⟨A, j, none⟩ = some (.int .u64 (y : Int)) := by
    rw [← HW1.out]
    unfold World.cell?
    rw [HA2.out]
  have b0' := blk_frozen HK3.out
  clear c1 b0 hW3
  cases hf : f k with
  | true =>
    rw [hf] at hbt HC
    have hbt : (bits .and .u64 ((y : Int) / 2 ^ e) 1 == 1) = false := hbt
    clear hf
    go_wp2
    go_end0
    refine ⟨rfl, ⟨ws.set j y, ?_, HR3.out, HNE.out, HRep.out, HNN.out⟩, HO2.out⟩
    have e1 : (cnt (flip f k) n : Int) = m - 1 := by have h1 := HC.out; have h2 := HM.out; simp at h1; omega
    rw [e1, List.length_set, HLw.out]
    exact HK3.out
  | false =>
    rw [hf] at hbt HC
    have hbt : (bits .and .u64 ((y : Int) / 2 ^ e) 1 == 1) = true := hbt
    clear hf
    have HO3 := Lib.hid (HO2.out.trans (Only.grown (g := g) (A := A) (gset (World.grownBy.refl W3 (some g)) 1 (.int .i64 (m - 1 + 2))) (.inl rfl)))
    have HK4 := Lib.hid (blk_put HK3.out 1 (.int .i64 (m - 1 + 2)) (cs' := #[.int .i64 (n : Int), .int .i64 (m - 1 + 2), .slice (some ⟨A, 0, none⟩) L c]) rfl)
    have HR4 := Lib.hid (own_move HR3.out (w1 := W3.setCell ⟨g, 1, none⟩ (.int .i64 (m - 1 + 2))) (fun k hk => by
      have : A = k := by injection hk
      rw [← this]; exact Below.heap_setCell W3 _ _ A (fun e => HNE.out e.symm)))
    go_wp2
    go_end0
    refine ⟨rfl, ⟨ws.set j y, ?_, HR4.out, HNE.out, HRep.out, HNN.out⟩, HO3.out⟩
    have e1 : (cnt (flip f k) n : Int) = m - 1 + 2 := by have h1 := HC.out; have h2 := HM.out; simp at h1; omega
    rw [e1, List.length_set, HLw.out]
    exact HK4.out
end Go.Proofs.YtdjjmmndfbffcaaDoor.FM

namespace Go.Proofs.YtdjjmmndfbffcaaDoor.FM
open Go.RowKit Go.Proofs.YtdjjmmndfbffcaaDoorW.PrintWords Go.Proofs.YtdjjmmndfbffcaaDoorW.PrintLast Go.Proofs.YtdjjmmndfbffcaaDoorW.PrintMore
set_option linter.unusedVariables false
set_option linter.unusedSimpArgs false
theorem infoU64 : (Tryd.prog.info? 56).map (fun i => (i.zero, i.size, i.bytes)) = some (some (.int .u64 0), 1, 8) := by kernel_rfl
theorem new_no (n : Int) (h : n < 256 ∨ 131072 < n) (W : World) :
    Calls Tryd.prog 18 #[.int .i64 n] W fun e w' => e = .returned (.tuple #[.pointer none, .int .i64 2]) ∧ Below W.heap.size W w' := by
  by_cases h1 : n < 256
  · have hd := decide_eq_true h1
    go_enter Tryd.func18, Tryd.ntmps18
    go_wp2
    go_ret2
    exact ⟨rfl, Below.refl _ _⟩
  · have hd := decide_eq_false h1
    have hd2 : decide (131072 < n) = true := decide_eq_true (by omega)
    go_enter Tryd.func18, Tryd.ntmps18
    go_wp2
    go_ret2
    exact ⟨rfl, Below.refl _ _⟩
set_option maxHeartbeats 2000000 in
set_option maxRecDepth 100000 in
theorem new_calls (n : Nat) (hn : 256 ≤ n ∧ n ≤ 131072) (W : World) :
    Calls Tryd.prog 18 #[.int .i64 (n : Int)] W fun e w' => e = .returned (.tuple #[.pointer (some ⟨W.heap.size + 1, 0, none⟩), .int .i64 0]) ∧ (∃ c ws, FmAt w' (W.heap.size + 1) W.heap.size c n (upTo n) ws) ∧ Below W.heap.size W w' := by
  have HN := Lib.hid hn
  have d1 : decide ((n : Int) < 256) = false := decide_eq_false (by omega)
  have d2 : decide (131072 < (n : Int)) = false := decide_eq_false (by omega)
  obtain ⟨L, hL⟩ : ∃ L, (n + 63) / 64 = L := ⟨_, rfl⟩
  have hLr : L ≤ 2049 := by omega
  have HL := Lib.hid hL
  have hw0 : wrap64 ((n : Int) + 63) = (n : Int) + 63 := by unfold wrap64; omega
  have hw1 : wrap64 (Int.tdiv ((n : Int) + 63) 64) = (L : Int) := by rw [Int.tdiv_eq_ediv_of_nonneg (by omega)]; unfold wrap64; omega
  have hw1' : wrap64 (((n : Int) + 63) / 64) = (L : Int) := by unfold wrap64; omega
  have hmk : ∀ W : World, (Instr.makeSlice 52 (.int .i64 (L : Int)) (.int .i64 (L : Int))).run Tryd.prog W = .ok (.slice (some ⟨W.heap.size, 0, none⟩) L L) (W.alloc (.cells (madeCells #[.int .u64 0] L) 56)) :=
    print_make (P := Tryd.prog) 52 56 .u64 8 Tryd.underlying52 infoU64 (by decide) L (by omega)
  have HM := Lib.hid (own_made W 0 56 .u64 L (Nat.zero_le _) (by omega))
  have HBa := Lib.hid (below_alloc (Below.refl W.heap.size W) (.cells (madeCells #[.int .u64 0] L) 56))
  clear hn hL
  go_enter Tryd.func18, Tryd.ntmps18
  go_upto_region 4 with fail
  have hsz : (W.alloc (.cells (madeCells #[.int .u64 0] L) 56)).heap.size = W.heap.size + 1 := by simp
  have HK := Lib.hid (blk_new (W.alloc (.cells (madeCells #[.int .u64 0] L) 56)) (.cells #[.int .i64 (n : Int), .int .i64 (n : Int), .slice (some ⟨W.heap.size, 0, none⟩) L L] 54))
  rw [hsz] at HK
  have HR : Hid (((W.alloc (.cells (madeCells #[.int .u64 0] L) 56)).alloc (.cells #[.int .i64 (n : Int), .int .i64 (n : Int), .slice (some ⟨W.heap.size, 0, none⟩) L L] 54)).ownsRow 0 56 1 (.slice (some ⟨W.heap.size, 0, none⟩) (List.replicate L 0).length L) (List.replicate L 0).length (nums .u64 (ints (List.replicate L 0)))) := Lib.hid (by
    have h := own_alloc HM.out (.cells #[.int .i64 (n : Int), .int .i64 (n : Int), .slice (some ⟨W.heap.size, 0, none⟩) L L] 54)
    rw [show ints (List.replicate L 0) = List.replicate L 0 by unfold ints; rw [List.map_replicate]; rfl, List.length_replicate]
    exact h)
  have HB := Lib.hid (below_alloc HBa.out (.cells #[.int .i64 (n : Int), .int .i64 (n : Int), .slice (some ⟨W.heap.size, 0, none⟩) L L] 54))
  have HS : Hid (W.heap.size + 2 ≤ ((W.alloc (.cells (madeCells #[.int .u64 0] L) 56)).alloc (.cells #[.int .i64 (n : Int), .int .i64 (n : Int), .slice (some ⟨W.heap.size, 0, none⟩) L L] 54)).heap.size) := Lib.hid (by simp)
  obtain ⟨W2, hW2⟩ : ∃ V, (W.alloc (.cells (madeCells #[.int .u64 0] L) 56)).alloc (.cells #[.int .i64 (n : Int), .int .i64 (n : Int), .slice (some ⟨W.heap.size, 0, none⟩) L L] 54) = V := ⟨_, rfl⟩
  rw [hW2] at HK HR HB HS
  rw [hW2]
  obtain ⟨A, hA⟩ : ∃ A, W.heap.size = A := ⟨_, rfl⟩
  have HAe := Lib.hid hA
  rw [hA] at HK HR HB HS
  obtain ⟨g, hg⟩ : ∃ g, A + 1 = g := ⟨_, rfl⟩
  have HGe := Lib.hid hg
  rw [hg] at HK
  rw [hA, hg]
  have HRep : Hid (Rep n (upTo 0) (List.replicate L 0)) := Lib.hid (by rw [← HL.out]; exact Rep.zero n)
  clear hW2 hA hg hmk HM HBa hsz hw0 hw1 hw1'
  generalize Value.int IntKind.i64 (wrap64 ((n : Int) + 63)) = u15
  generalize Value.int IntKind.i64 (wrap64 (Int.tdiv ((n : Int) + 63) 64)) = u16
  generalize Value.agg #[.int .i64 (n : Int), .int .i64 (n : Int), .slice (some ⟨A, 0, none⟩) L L] = u18
  go_wp2_with fail
  go_loopw [21] (fun iv V => ∃ (i : Nat) (ws : List Nat), i ≤ n ∧ iv = .int .i64 (i : Int) ∧ Aside0 (Rep n (upTo i) ws) ∧ Aside0 (V.ownsRow 0 56 1 (.slice (some ⟨A, 0, none⟩) ws.length L) ws.length (nums .u64 (ints ws))) ∧ Aside0 (V.heap[g]? = some (.cells #[.int .i64 (n : Int), .int .i64 (n : Int), .slice (some ⟨A, 0, none⟩) L L] 54 (0, 0))) ∧ Aside0 (Below A W V) ∧ Aside0 (A + 2 ≤ V.heap.size)) (fun iv _ => n - (intOf iv).toNat)
  case atStart => exact ⟨0, _, Nat.zero_le _, rfl, ⟨HRep.out⟩, ⟨HR.out⟩, ⟨HK.out⟩, ⟨HB.out⟩, ⟨HS.out⟩⟩
  case round =>
    obtain ⟨i, ws, hi, rfl, ⟨hrep⟩, ⟨hrow⟩, ⟨hblk⟩, ⟨hb⟩, ⟨hs⟩⟩ := hrel
    have HRep1 := Lib.hid hrep
    have HRow1 := Lib.hid hrow
    have HBlk1 := Lib.hid hblk
    have HB1 := Lib.hid hb
    have HS1 := Lib.hid hs
    clear hrep hrow hblk hb hs HRep HR HK HB HS
    by_cases hlt : i < n
    · have hd := decide_eq_true (show (i : Int) < (n : Int) by omega)
      have c2 := blk_cell HBlk1.out 2
      simp only [List.getElem?_toArray, List.getElem?_cons_succ, List.getElem?_cons_zero] at c2
      obtain ⟨x, j, e, L', hx, hL', hjj, hee, hj, he, he2, p1, p2, p3, p4, hX, hBit, hE⟩ := pick HN.out.2 HRep1.out i hlt
      obtain rfl : L = L' := by rw [← hL', HRep1.out.len, HL.out]
      have hjl : j < ws.length := by have := of_eq_true p2; rw [hL']; omega
      obtain ⟨cw, fw⟩ := own_at HRow1.out (j : Int) (by omega) (by omega)
      rw [Int.toNat_natCast, rd_ints, hx] at cw
      rw [Int.toNat_natCast] at fw
      have hor : bits .or .u64 (x : Int) (IntKind.u64.wrap ((2 : Int) ^ e)) = ((x ||| 2 ^ e : Nat) : Int) := by
        have := pow_u64 e hE
        rw [Nat.min_eq_left (by omega)] at this
        rw [this]
        exact or_word x e hX hE
      obtain ⟨y, hy⟩ : ∃ y, x ||| 2 ^ e = y := ⟨_, rfl⟩
      rw [hy] at hor
      have HRep2 := Lib.hid (HRep1.out.put i hlt)
      rw [hjj, hee, hx, hy, setF_upTo] at HRep2
      have HRow2 := Lib.hid (own_drew (word_store HRow1.out j y))
      have hga : g ≠ A := by have := HGe.out; omega
      have HBlk2 : Hid ((wr.setCell ⟨A, j, none⟩ (.int .u64 (y : Int))).drew.heap[g]? = some (.cells #[.int .i64 (n : Int), .int .i64 (n : Int),   .slice (some ⟨A, 0, none⟩) L L] 54 (0, 0))) := Lib.hid ((Below.heap_setCell wr _ _ g hga).trans HBlk1.out)
      have HB2 : Hid (Below A W (wr.setCell ⟨A, j, none⟩ (.int .u64 (y : Int))).drew) := Lib.hid (below_drew (HB1.out.setCell (p := ⟨A, j, none⟩) (Nat.le_refl _) _))
      have HS2 : Hid (A + 2 ≤ (wr.setCell ⟨A, j, none⟩ (.int .u64 (y : Int))).drew.heap.size) := Lib.hid (by have := HS1.out; simpa [World.setCell] using this)
      clear hx hL' hjj hee hX hBit hy hga hjl
      have hnx : wrap64 ((i : Int) + 1) = ((i + 1 : Nat) : Int) := by have := HN.out; clear hj; unfold wrap64; omega
      have HLt := Lib.hid hlt
      have Hi := Lib.hid hi
      have Hnx := Lib.hid hnx
      go_upto_region 7 with fail
      clear hi hlt hnx hd hLr d1 d2
      refine start_ (n := 14) (S := fun w' => w'.cell? ⟨g, 2, none⟩ = some (.slice (some ⟨A, 0, none⟩) L L) ∧ w'.cell? ⟨A, j, none⟩ = some (.int .u64 (x : Int))) (ds := [13]) #[false, false, false, false, false, false, false, false, false, false, false, false, false, false] (by kernel_rfl) rfl rfl ⟨c2, cw⟩ (fun hHeld => ?_)
      refine pure_ (i := 0) (N := some 24) (v := ?_) (a' := ?_) #[true, false, false, false, false, false, false, false, false, false, false, false, false, false] rfl rfl (by kernel_rfl) (fun _ _ _ h => h) (Or.inl ⟨by rfl, ?_⟩) ?_ ?_
      rotate_left
      · intro w'
        go_simp
        with_reducible rfl
      rotate_left
      · simp only [Act.put, List.setIfInBounds_toArray, List.set_cons_zero, List.set_cons_succ, i64_w, i32_w]
        rfl
      refine pure_ (i := 1) (N := some 25) (v := ?_) (a' := ?_) #[true, true, false, false, false, false, false, false, false, false, false, false, false, false] rfl rfl (by kernel_rfl) (fun _ _ _ h => h) (Or.inl ⟨by rfl, ?_⟩) ?_ ?_
      rotate_left
      · intro w'
        go_simp
        with_reducible rfl
      rotate_left
      · simp only [Act.put, List.setIfInBounds_toArray, List.set_cons_zero, List.set_cons_succ, i64_w, i32_w]
        rfl
      refine pure_ (i := 2) (N := some 26) (v := ?_) (a' := ?_) #[true, true, true, false, false, false, false, false, false, false, false, false, false, false] rfl rfl (by kernel_rfl) (fun _ _ _ h => h) (Or.inl ⟨by rfl, ?_⟩) ?_ ?_
      rotate_left
      · intro w'
        go_simp
        with_reducible rfl
      rotate_left
      · simp only [Act.put, List.setIfInBounds_toArray, List.set_cons_zero, List.set_cons_succ, i64_w, i32_w]
        rfl
      refine pure_ (i := 4) (N := some 28) (v := ?_) (a' := ?_) #[true, true, true, false, true, false, false, false, false, false, false, false, false, false] rfl rfl (by kernel_rfl) (fun _ _ _ h => h) (Or.inl ⟨by rfl, ?_⟩) ?_ ?_
      rotate_left
      · intro w'
        go_simp
        with_reducible rfl
      rotate_left
      · simp only [Act.put, List.setIfInBounds_toArray, List.set_cons_zero, List.set_cons_succ, i64_w, i32_w]
        rfl
      refine pure_ (i := 5) (N := some 29) (v := ?_) (a' := ?_) #[true, true, true, false, true, true, false, false, false, false, false, false, false, false] rfl rfl (by kernel_rfl) (fun _ _ _ h => h) (Or.inl ⟨by rfl, ?_⟩) ?_ ?_
      rotate_left
      · intro w'
        go_simp
        with_reducible rfl
      rotate_left
      · simp only [Act.put, List.setIfInBounds_toArray, List.set_cons_zero, List.set_cons_succ, i64_w, i32_w]
        rfl
      refine pure_ (i := 8) (N := some 32) (v := ?_) (a' := ?_) #[true, true, true, false, true, true, false, false, true, false, false, false, false, false] rfl rfl (by kernel_rfl) (fun _ _ _ h => h) (Or.inl ⟨by rfl, ?_⟩) ?_ ?_
      rotate_left
      · intro w'
        go_simp
        with_reducible rfl
      rotate_left
      · simp only [Act.put, List.setIfInBounds_toArray, List.set_cons_zero, List.set_cons_succ, i64_w, i32_w]
        rfl
      refine pure_ (i := 9) (N := some 33) (v := ?_) (a' := ?_) #[true, true, true, false, true, true, false, false, true, true, false, false, false, false] rfl rfl (by kernel_rfl) (fun _ _ _ h => h) (Or.inl ⟨by rfl, ?_⟩) ?_ ?_
      rotate_left
      · intro w'
        go_simp
        with_reducible rfl
      rotate_left
      · simp only [Act.put, List.setIfInBounds_toArray, List.set_cons_zero, List.set_cons_succ, i64_w, i32_w]
        rfl
      refine pure_ (i := 10) (N := some 34) (v := ?_) (a' := ?_) #[true, true, true, false, true, true, false, false, true, true, true, false, false, false] rfl rfl (by kernel_rfl) (fun _ _ _ h => h) (Or.inl ⟨by rfl, ?_⟩) ?_ ?_
      rotate_left
      · intro w'
        go_simp
        with_reducible rfl
      rotate_left
      · simp only [Act.put, List.setIfInBounds_toArray, List.set_cons_zero, List.set_cons_succ, i64_w, i32_w]
        rfl
      refine take_ (i := 3) (N := some 27) (v := ?_) (a' := ?_) #[true, true, true, true, true, true, false, false, true, true, true, false, false, false] rfl rfl (by kernel_rfl) (fun _ _ _ h => h) (Or.inl ⟨by rfl, ?_⟩) hHeld ?_ ?_
      rotate_left
      · rintro w' ⟨s0, s1⟩
        go_simp
        with_reducible rfl
      rotate_left
      · simp only [Act.put, List.setIfInBounds_toArray, List.set_cons_zero, List.set_cons_succ, i64_w, i32_w]
        rfl
      refine pure_ (i := 6) (N := some 30) (v := ?_) (a' := ?_) #[true, true, true, true, true, true, true, false, true, true, true, false, false, false] rfl rfl (by kernel_rfl) (fun _ _ _ h => h) (Or.inl ⟨by rfl, ?_⟩) ?_ ?_
      rotate_left
      · intro w'
        go_simp
        with_reducible rfl
      rotate_left
      · simp only [Act.put, List.setIfInBounds_toArray, List.set_cons_zero, List.set_cons_succ, i64_w, i32_w]
        rfl
      refine take_ (i := 7) (N := some 31) (v := ?_) (a' := ?_) #[true, true, true, true, true, true, true, true, true, true, true, false, false, false] rfl rfl (by kernel_rfl) (fun _ _ _ h => h) (Or.inl ⟨by rfl, ?_⟩) hHeld ?_ ?_
      rotate_left
      · rintro w' ⟨s0, s1⟩
        go_simp
        with_reducible rfl
      rotate_left
      · simp only [Act.put, List.setIfInBounds_toArray, List.set_cons_zero, List.set_cons_succ, i64_w, i32_w]
        rfl
      refine pure_ (i := 11) (N := some 35) (v := ?_) (a' := ?_) #[true, true, true, true, true, true, true, true, true, true, true, true, false, false] rfl rfl (by kernel_rfl) (fun _ _ _ h => h) (Or.inl ⟨by rfl, ?_⟩) ?_ ?_
      rotate_left
      · intro w'
        go_simp
        with_reducible rfl
      rotate_left
      · simp only [Act.put, List.setIfInBounds_toArray, List.set_cons_zero, List.set_cons_succ, i64_w, i32_w]
        rfl
      refine pure_ (i := 12) (N := some 36) (v := ?_) (a' := ?_) #[true, true, true, true, true, true, true, true, true, true, true, true, true, false] rfl rfl (by kernel_rfl) (fun _ _ _ h => h) (Or.inl ⟨by rfl, ?_⟩) ?_ ?_
      rotate_left
      · intro w'
        go_simp
        with_reducible rfl
      rotate_left
      · simp only [Act.put, List.setIfInBounds_toArray, List.set_cons_zero, List.set_cons_succ, i64_w, i32_w]
        rfl
      refine last_ (i := 13) (N := none) #[true, true, true, true, true, true, true, true, true, true, true, true, true, true] rfl rfl (by kernel_rfl) (by decide) (fun K hK => ?_)
      refine skip_ (w1 := ?_) (by rfl) rfl ?_ ?_
      rotate_left
      · go_simp
        rfl
      refine hK.out _ _ ?_
      clear hK K
      refine done_ (by kernel_rfl) ?_
      clear hHeld hj he he2 p1 p2 p3 p4 cw fw c2 hor hE
      have hnx := Hnx.out
      have hlt := HLt.out
      obtain ⟨W4, hW4⟩ : ∃ V, (wr.setCell ⟨A, j, none⟩ (.int .u64 (y : Int))).drew = V := ⟨_, rfl⟩
      rw [hW4] at HRow2 HBlk2 HB2 HS2
      rw [hW4]
      clear hW4
      go_wp2
      go_roundw
      case rel => exact ⟨i + 1, _, by omega, by first | rfl | rw [hnx] | go_num, ⟨HRep2.out⟩, ⟨HRow2.out⟩, ⟨HBlk2.out⟩, ⟨HB2.out⟩, ⟨HS2.out⟩⟩
      case measure => first | (rw [hnx]; simp [intOf]; omega) | (simp [intOf]; omega)
    · obtain rfl : i = n := by omega
      have hd := decide_eq_false (show ¬ (i : Int) < (i : Int) by omega)
      go_wp2
      go_ret2
      refine ⟨by rw [HAe.out, HGe.out]; rfl, ⟨L, ws, ?_⟩, by rw [HAe.out]; exact HB1.out⟩
      rw [HAe.out, HGe.out]
      have hl : ws.length = L := by rw [HRep1.out.len, HL.out]
      refine ⟨?_, HRow1.out, by have := HGe.out; omega, HRep1.out, HN.out⟩
      rw [cnt_upTo, hl]
      exact HBlk1.out
end Go.Proofs.YtdjjmmndfbffcaaDoor.FM

namespace Go.Proofs.YtdjjmmndfbffcaaDoor.FM
open Go.RowKit Go.Proofs.YtdjjmmndfbffcaaDoorW.PrintWords Go.Proofs.YtdjjmmndfbffcaaDoorW.PrintLast Go.Proofs.YtdjjmmndfbffcaaDoorW.PrintMore
set_option linter.unusedVariables false
set_option linter.unusedSimpArgs false
set_option maxHeartbeats 1000000 in
set_option maxRecDepth 100000 in
theorem len_calls {W : World} {g A c n : Nat} {f : Nat → Bool} {ws : List Nat} (h : FmAt W g A c n f ws) :
    Calls Tryd.prog 17 #[.pointer (some ⟨g, 0, none⟩)] W fun e w' => e = .returned (.int .i64 (n : Int)) ∧ Below W.heap.size W w' := by
  have HF := Lib.hid h
  have HI := Lib.hid (is_calls h)
  clear h
  go_enter Tryd.func17, Tryd.ntmps17
  go_wp2_with fail
  refine HI.out.mono ?_; rintro e w1 ⟨rfl, hb1⟩
  have HF1 := Lib.hid (HF.out.below hb1 (Nat.le_refl _))
  obtain ⟨c0, c1, c2⟩ := HF1.out.cells
  have HB := Lib.hid hb1
  clear hb1
  go_wp2
  go_ret
  exact ⟨rfl, HB.out⟩
set_option maxHeartbeats 1000000 in
set_option maxRecDepth 100000 in
theorem free_calls {W : World} {g A c n : Nat} {f : Nat → Bool} {ws : List Nat} (h : FmAt W g A c n f ws) :
    Calls Tryd.prog 14 #[.pointer (some ⟨g, 0, none⟩)] W fun e w' => e = .returned (.int .i64 (cnt f n : Int)) ∧ Below W.heap.size W w' := by
  have HF := Lib.hid h
  have HI := Lib.hid (is_calls h)
  clear h
  go_enter Tryd.func14, Tryd.ntmps14
  go_wp2_with fail
  refine HI.out.mono ?_; rintro e w1 ⟨rfl, hb1⟩
  have HF1 := Lib.hid (HF.out.below hb1 (Nat.le_refl _))
  obtain ⟨c0, c1, c2⟩ := HF1.out.cells
  have HB := Lib.hid hb1
  clear hb1
  go_wp2
  go_ret
  exact ⟨rfl, HB.out⟩
theorem clone_calls {W : World} {g A c n : Nat} {f : Nat → Bool} {ws : List Nat} (h : FmAt W g A c n f ws) :
    Calls Tryd.prog 37 #[.slice (some ⟨A, 0, none⟩) ws.length c] W fun e w' => ∃ A' c', e = .returned (.slice (some ⟨A', 0, none⟩) ws.length c') ∧ w'.ownsRow 0 56 1 (.slice (some ⟨A', 0, none⟩) ws.length c') ws.length (nums .u64 (ints ws)) ∧ W.heap.size ≤ A' ∧ A' < w'.heap.size ∧ Below W.heap.size W w' := by
  have hl := h.rep.len
  have hn := h.nn
  obtain ⟨i0, hi, hz0, hz1, hz2⟩ := info_parts infoU64
  have hc : ∀ j u, (nums .u64 (ints ws))[j]? = some u → W.cell? ⟨A, 0 + j, none⟩ = some u := fun j u hj => by
    have := h.row.cells (g := A) rfl j u hj
    rw [add_plain] at this
    rw [Nat.zero_add]
    exact this
  refine (Tryd.slices_Clone_f37 i0 (.int .u64 0) 1 8 hi hz0 hz1 hz2 rfl (by decide) (fun w => by kernel_rfl) A 0 ws.length c (nums .u64 (ints ws)) W (by simp [nums, ints]) (by unfold maxLen; omega) (by omega) hc (fun u hu => by
    unfold nums at hu
    obtain ⟨x, _, rfl⟩ := List.mem_map.1 hu
    rfl)).mono ?_
  rintro e w' ⟨v', rfl, hrow, hne, hb⟩
  rcases hrow.2 with ⟨_, h0⟩ | ⟨A', c', cur, hv, hg, hh, hr⟩
  · omega
  · subst hv
    exact ⟨A', c', rfl, own_weaken hrow (Nat.zero_le _), hg, own_lt hrow A' rfl, hb⟩
set_option maxHeartbeats 2000000 in
set_option maxRecDepth 100000 in
theorem copy_calls {W : World} {g A c n : Nat} {f : Nat → Bool} {ws : List Nat} (h : FmAt W g A c n f ws) :
    Calls Tryd.prog 13 #[.pointer (some ⟨g, 0, none⟩)] W fun e w' => ∃ g' A' c', e = .returned (.pointer (some ⟨g', 0, none⟩)) ∧ FmAt w' g' A' c' n f ws ∧ W.heap.size ≤ g' ∧ W.heap.size ≤ A' ∧ Below W.heap.size W w' := by
  have HF := Lib.hid h
  have HI := Lib.hid (is_calls h)
  obtain ⟨L, hL⟩ : ∃ L, ws.length = L := ⟨_, rfl⟩
  have HL := Lib.hid hL
  obtain ⟨m, hm⟩ : ∃ m : Int, (cnt f n : Int) = m := ⟨_, rfl⟩
  have HM := Lib.hid hm
  have HCl : Hid (∀ V, FmAt V g A c n f ws → Calls Tryd.prog 37 #[.slice (some ⟨A, 0, none⟩) L c] V fun e w' => ∃ A' c', e = .returned (.slice (some ⟨A', 0, none⟩) L c') ∧ w'.ownsRow 0 56 1 (.slice (some ⟨A', 0, none⟩) ws.length c') ws.length (nums .u64 (ints ws)) ∧ V.heap.size ≤ A' ∧ A' < w'.heap.size ∧ Below V.heap.size V w') := Lib.hid (fun V hV => by
    have := clone_calls hV
    rw [hL] at this ⊢
    exact this)
  have HCs : Hid (∀ V, FmAt V g A c n f ws → V.cell? ⟨g, 0, none⟩ = some (.int .i64 (n : Int)) ∧ V.cell? ⟨g, 1, none⟩ = some (.int .i64 m) ∧ V.cell? ⟨g, 2, none⟩ = some (.slice (some ⟨A, 0, none⟩) L c)) := Lib.hid (fun V hV => by
    have := hV.cells
    rw [hL, hm] at this
    exact this)
  clear h hL hm
  go_enter Tryd.func13, Tryd.ntmps13
  go_wp2_with fail
  refine HI.out.mono ?_; rintro e w1 ⟨rfl, hb1⟩
  have HF1 := Lib.hid (HF.out.below hb1 (Nat.le_refl _))
  have HB := Lib.hid hb1
  clear hb1 HI
  obtain ⟨c0, c1, c2⟩ := HCs.out _ HF1.out
  have HB2x : Hid (W.heap.size ≤ w1.drew.heap.size) := Lib.hid HB.out.size
  go_upto_region 3 with fail
  refine start_ (n := 16) (S := fun w' => w'.cell? ⟨g, 0, none⟩ = some (.int .i64 (n : Int)) ∧ w'.cell? ⟨g, 1, none⟩ = some (.int .i64 m) ∧ w'.cell? ⟨g, 2, none⟩ = some (.slice (some ⟨A, 0, none⟩) L c)) (ds := []) #[false, false, false, false, false, false, false, false, false, false, false, false, false, false, false, false] (by kernel_rfl) rfl rfl ⟨c0, c1, c2⟩ (fun hHeld => ?_)
  refine pure_ (i := 0) (N := some 6) (v := ?_) (a' := ?_) #[true, false, false, false, false, false, false, false, false, false, false, false, false, false, false, false] rfl rfl (by kernel_rfl) (fun _ _ _ h => h) (Or.inl ⟨by rfl, ?_⟩) ?_ ?_
  rotate_left
  · intro w'
    go_simp
    with_reducible rfl
  rotate_left
  · simp only [Act.put, List.setIfInBounds_toArray, List.set_cons_zero, List.set_cons_succ, i64_w, i32_w]
    rfl
  refine pure_ (i := 1) (N := some 7) (v := ?_) (a' := ?_) #[true, true, false, false, false, false, false, false, false, false, false, false, false, false, false, false] rfl rfl (by kernel_rfl) (fun _ _ _ h => h) (Or.inl ⟨by rfl, ?_⟩) ?_ ?_
  rotate_left
  · intro w'
    go_simp
    with_reducible rfl
  rotate_left
  · simp only [Act.put, List.setIfInBounds_toArray, List.set_cons_zero, List.set_cons_succ, i64_w, i32_w]
    rfl
  refine pure_ (i := 2) (N := some 8) (v := ?_) (a' := ?_) #[true, true, true, false, false, false, false, false, false, false, false, false, false, false, false, false] rfl rfl (by kernel_rfl) (fun _ _ _ h => h) (Or.inl ⟨by rfl, ?_⟩) ?_ ?_
  rotate_left
  · intro w'
    go_simp
    with_reducible rfl
  rotate_left
  · simp only [Act.put, List.setIfInBounds_toArray, List.set_cons_zero, List.set_cons_succ, i64_w, i32_w]
    rfl
  refine pure_ (i := 4) (N := some 10) (v := ?_) (a' := ?_) #[true, true, true, false, true, false, false, false, false, false, false, false, false, false, false, false] rfl rfl (by kernel_rfl) (fun _ _ _ h => h) (Or.inl ⟨by rfl, ?_⟩) ?_ ?_
  rotate_left
  · intro w'
    go_simp
    with_reducible rfl
  rotate_left
  · simp only [Act.put, List.setIfInBounds_toArray, List.set_cons_zero, List.set_cons_succ, i64_w, i32_w]
    rfl
  refine pure_ (i := 5) (N := some 11) (v := ?_) (a' := ?_) #[true, true, true, false, true, true, false, false, false, false, false, false, false, false, false, false] rfl rfl (by kernel_rfl) (fun _ _ _ h => h) (Or.inl ⟨by rfl, ?_⟩) ?_ ?_
  rotate_left
  · intro w'
    go_simp
    with_reducible rfl
  rotate_left
  · simp only [Act.put, List.setIfInBounds_toArray, List.set_cons_zero, List.set_cons_succ, i64_w, i32_w]
    rfl
  refine pure_ (i := 6) (N := some 12) (v := ?_) (a' := ?_) #[true, true, true, false, true, true, true, false, false, false, false, false, false, false, false, false] rfl rfl (by kernel_rfl) (fun _ _ _ h => h) (Or.inl ⟨by rfl, ?_⟩) ?_ ?_
  rotate_left
  · intro w'
    go_simp
    with_reducible rfl
  rotate_left
  · simp only [Act.put, List.setIfInBounds_toArray, List.set_cons_zero, List.set_cons_succ, i64_w, i32_w]
    rfl
  refine pure_ (i := 8) (N := some 14) (v := ?_) (a' := ?_) #[true, true, true, false, true, true, true, false, true, false, false, false, false, false, false, false] rfl rfl (by kernel_rfl) (fun _ _ _ h => h) (Or.inl ⟨by rfl, ?_⟩) ?_ ?_
  rotate_left
  · intro w'
    go_simp
    with_reducible rfl
  rotate_left
  · simp only [Act.put, List.setIfInBounds_toArray, List.set_cons_zero, List.set_cons_succ, i64_w, i32_w]
    rfl
  refine pure_ (i := 9) (N := some 15) (v := ?_) (a' := ?_) #[true, true, true, false, true, true, true, false, true, true, false, false, false, false, false, false] rfl rfl (by kernel_rfl) (fun _ _ _ h => h) (Or.inl ⟨by rfl, ?_⟩) ?_ ?_
  rotate_left
  · intro w'
    go_simp
    with_reducible rfl
  rotate_left
  · simp only [Act.put, List.setIfInBounds_toArray, List.set_cons_zero, List.set_cons_succ, i64_w, i32_w]
    rfl
  refine pure_ (i := 10) (N := some 16) (v := ?_) (a' := ?_) #[true, true, true, false, true, true, true, false, true, true, true, false, false, false, false, false] rfl rfl (by kernel_rfl) (fun _ _ _ h => h) (Or.inl ⟨by rfl, ?_⟩) ?_ ?_
  rotate_left
  · intro w'
    go_simp
    with_reducible rfl
  rotate_left
  · simp only [Act.put, List.setIfInBounds_toArray, List.set_cons_zero, List.set_cons_succ, i64_w, i32_w]
    rfl
  refine take_ (i := 3) (N := some 9) (v := ?_) (a' := ?_) #[true, true, true, true, true, true, true, false, true, true, true, false, false, false, false, false] rfl rfl (by kernel_rfl) (fun _ _ _ h => h) (Or.inl ⟨by rfl, ?_⟩) hHeld ?_ ?_
  rotate_left
  · rintro w' ⟨s0, s1, s2⟩
    go_simp
    with_reducible rfl
  rotate_left
  · simp only [Act.put, List.setIfInBounds_toArray, List.set_cons_zero, List.set_cons_succ, i64_w, i32_w]
    rfl
  refine take_ (i := 7) (N := some 13) (v := ?_) (a' := ?_) #[true, true, true, true, true, true, true, true, true, true, true, false, false, false, false, false] rfl rfl (by kernel_rfl) (fun _ _ _ h => h) (Or.inl ⟨by rfl, ?_⟩) hHeld ?_ ?_
  rotate_left
  · rintro w' ⟨s0, s1, s2⟩
    go_simp
    with_reducible rfl
  rotate_left
  · simp only [Act.put, List.setIfInBounds_toArray, List.set_cons_zero, List.set_cons_succ, i64_w, i32_w]
    rfl
  refine take_ (i := 11) (N := some 17) (v := ?_) (a' := ?_) #[true, true, true, true, true, true, true, true, true, true, true, true, false, false, false, false] rfl rfl (by kernel_rfl) (fun _ _ _ h => h) (Or.inl ⟨by rfl, ?_⟩) hHeld ?_ ?_
  rotate_left
  · rintro w' ⟨s0, s1, s2⟩
    go_simp
    with_reducible rfl
  rotate_left
  · simp only [Act.put, List.setIfInBounds_toArray, List.set_cons_zero, List.set_cons_succ, i64_w, i32_w]
    rfl
  refine one_ (i := 12) (N := some 18) #[true, true, true, true, true, true, true, true, true, true, true, true, true, false, false, false] rfl rfl (by kernel_rfl) (by decide) (fun K hK => ?_)
  refine goes_ Tryd.func37 (by kernel_rfl) rfl #[.slice (some ⟨A, 0, none⟩) L c] (by rfl) rfl rfl (by simp only [List.map_toArray, List.map_cons, List.map_nil]; rfl) ?_
  with_reducible refine (HCl.out _ HF1.out.drew).mono ?_
  rintro e w2 ⟨A2, c2', rfl, hrow2, hA2, hA2', hb2⟩
  refine ⟨_, rfl, ?_⟩
  have HF2 := Lib.hid (HF1.out.drew.below hb2 (Nat.le_refl _))
  have HB2 := Lib.hid (below_step (below_drew HB.out) hb2)
  have HRow2 := Lib.hid hrow2
  have HA2 := Lib.hid hA2
  have HA2' := Lib.hid hA2'
  clear hrow2 hA2 hA2' hb2 HF1 HB
  obtain ⟨d0, d1, d2⟩ := HCs.out _ HF2.out
  refine hK.out _ _ ⟨d0, d1, d2⟩ (fun hHeld => ?_)
  clear hK K
  refine norm_ (a' := ?_) ?_ ?_
  rotate_left
  · show Act.put _ (some 18) _ = _
    simp only [Act.put, List.setIfInBounds_toArray, List.set_cons_zero, List.set_cons_succ, i64_w, i32_w]
    rfl
  refine pure_ (i := 13) (N := some 19) (v := ?_) (a' := ?_) #[true, true, true, true, true, true, true, true, true, true, true, true, true, true, false, false] rfl rfl (by kernel_rfl) (fun _ _ _ h => h) (Or.inl ⟨by rfl, ?_⟩) ?_ ?_
  rotate_left
  · intro w'
    go_simp
    with_reducible rfl
  rotate_left
  · simp only [Act.put, List.setIfInBounds_toArray, List.set_cons_zero, List.set_cons_succ, i64_w, i32_w]
    rfl
  refine one_ (i := 14) (N := some 20) #[true, true, true, true, true, true, true, true, true, true, true, true, true, true, true, false] rfl rfl (by kernel_rfl) (by decide) (fun K hK => ?_)
  refine value_ (w1 := ?_) (v := ?_) (by rfl) rfl ?_ ?_
  rotate_left 2
  · go_simp
    constructor
    · rfl
    · rfl
  refine hK.out _ _ ⟨(HCs.out _ (HF2.out.alloc _)).1, (HCs.out _ (HF2.out.alloc _)).2.1, (HCs.out _ (HF2.out.alloc _)).2.2⟩ (fun hHeld => ?_)
  clear hK K
  refine norm_ (a' := ?_) ?_ ?_
  rotate_left
  · show Act.put _ (some 20) _ = _
    simp only [Act.put, List.setIfInBounds_toArray, List.set_cons_zero, List.set_cons_succ, i64_w, i32_w]
    rfl
  refine pure_ (i := 15) (N := some 2) (v := ?_) (a' := ?_) #[true, true, true, true, true, true, true, true, true, true, true, true, true, true, true, true] rfl rfl (by kernel_rfl) (fun _ _ _ h => h) (Or.inl ⟨by rfl, ?_⟩) ?_ ?_
  rotate_left
  · intro w'
    go_simp
    with_reducible rfl
  rotate_left
  · simp only [Act.put, List.setIfInBounds_toArray, List.set_cons_zero, List.set_cons_succ, i64_w, i32_w]
    rfl
  refine done_ (by kernel_rfl) ?_
  go_wp2
  go_ret
  have hw1 : W.heap.size ≤ w1.drew.heap.size := HB2x.out
  refine ⟨w2.heap.size, A2, c2', rfl, ⟨?_, ?_, ?_, HF2.out.rep, HF2.out.nn⟩, HB2.out.size, Nat.le_trans hw1 HA2.out, below_alloc HB2.out _⟩
  · rw [HM.out, HL.out]
    exact blk_new w2 _
  · exact own_alloc HRow2.out _
  · have := HA2'.out
    omega
end Go.Proofs.YtdjjmmndfbffcaaDoor.FM

namespace Go.Proofs.YtdjjmmndfbffcaaDoor.FM
open Go.RowKit Go.Proofs.YtdjjmmndfbffcaaDoorW.PrintWords Go.Proofs.YtdjjmmndfbffcaaDoorW.PrintLast Go.Proofs.YtdjjmmndfbffcaaDoorW.PrintMore
set_option linter.unusedVariables false
set_option linter.unusedSimpArgs false
theorem infoInt : (Tryd.prog.info? 3).map (fun i => (i.zero, i.size, i.bytes)) = some (some (.int .i64 0), 1, 8) := by kernel_rfl
def TZ (w : World) : Prop := ∀ j, j < 64 → w.cell? ⟨0, j, none⟩ = some (.int .u8 ((Lib.deBruijn64tab.getD j 0 : Nat) : Int))
theorem TZ.lt {w : World} (h : TZ w) : 0 < w.heap.size := World.block_lt_of_cell? w _ (h 0 (by decide))
theorem TZ.move {w w' : World} (h : TZ w) (hb : w'.heap[0]? = w.heap[0]?) : TZ w' := fun j hj => by
  have := h j hj
  unfold World.cell? at this ⊢
  rw [hb]
  exact this
theorem TZ.below {w w' : World} {n : Nat} (h : TZ w) (hb : Below n w w') (hn : 0 < n) : TZ w' := h.move (hb.block 0 hn)
theorem TZ.only {w w' : World} {g A : Nat} (h : TZ w) (o : Only g A w w') (hg : g ≠ 0) (hA : A ≠ 0) : TZ w' := h.move (o.block 0 h.lt (fun e => hg e.symm) (fun e => hA e.symm))
set_option maxHeartbeats 1000000 in
set_option maxRecDepth 100000 in
theorem tz_core (x k idx : Nat) (w : World) (hx0 : ((x : Int) == 0) = false)
    (key : IntKind.u64.wrap (bits BinOp.and IntKind.u64 (x : Int) (IntKind.u64.wrap (-(x : Int))) * 285870213051353865) / 288230376151711744 = (idx : Int))
    (hi : idx < 64) (hk : k < 64) (hcell : w.cell? ⟨0, idx, none⟩ = some (.int .u8 k)) :
    Calls Tryd.prog 38 #[.int .u64 (x : Int)] w fun e w' => e = .returned (.int .i64 k) ∧ w' = w := by
  go_enter Tryd.func38, Tryd.ntmps38
  go_wp2_with (simp only [key])
  go_ret
  exact ⟨rfl, rfl⟩
theorem tz_calls (x : Nat) (hx : x < 18446744073709551616) (h0 : x ≠ 0) (w : World) (hT : TZ w) :
    Calls Tryd.prog 38 #[.int .u64 (x : Int)] w fun e w' => e = .returned (.int .i64 ((Lib.ctz 64 x : Nat) : Int)) ∧ w' = w := by
  obtain ⟨hlow, hk⟩ := Lib.lowest_bit 64 x h0 hx
  obtain ⟨hi, htab⟩ := Lib.deBruijn64_at _ hk
  have hcell := hT _ hi
  rw [htab] at hcell
  exact tz_core x _ _ w (by simp; omega) (tz64_key x _ hx h0 hlow) hi hk hcell
theorem own_form {w : World} {base n c : Nat} {e : TypeId} {A : Option Addr} {xs : List Value} (h : w.ownsRow base e 1 (.slice A n c) n xs) (hn : 0 < n) : ∃ g, A = some ⟨g, 0, none⟩ ∧ base ≤ g ∧ g < w.heap.size := by
  rcases h.2 with ⟨h', h0⟩ | ⟨g, cap, cur, h', hb, hh, _⟩
  · omega
  · injection h' with h'
    exact ⟨g, h', hb, own_lt h g (by rw [h']; rfl)⟩
structure TS (w W : World) (g A c n : Nat) (f : Nat → Bool) (ws : List Nat) (v : Value) (l : List Int) : Prop where
  fm : FmAt W g A c n f ws
  row : W.ownsRow w.heap.size 3 1 v l.length (nums .i64 l)
  below : Below w.heap.size w W
theorem TS.under {w W W' : World} {g A c n : Nat} {f : Nat → Bool} {ws : List Nat} {v : Value} {l : List Int} (h : TS w W g A c n f ws v l) (hb : Below W.heap.size W W') : TS w W' g A c n f ws v l :=
  ⟨h.fm.below hb (Nat.le_refl _), pw_own_below h.row hb, below_step h.below hb⟩
theorem TS.app {w W W' : World} {g A c n : Nat} {f : Nat → Bool} {ws : List Nat} {v v' : Value} {l l' : List Int} (h : TS w W g A c n f ws v l) (hlt : g < w.heap.size ∧ A < w.heap.size) (ho : W'.ownsRow w.heap.size 3 1 v' l'.length (nums .i64 l')) (hb : Below w.heap.size w W') (hg : W.grownBy W' v.ownBlock) : TS w W' g A c n f ws v' l' :=
  ⟨h.fm.move (hg.block g h.fm.lt.1 (fun e => by have := own_base h.row g e.symm; omega)) (hg.block A h.fm.lt.2 (fun e => by have := own_base h.row A e.symm; omega)), ho, hb⟩
theorem litI (W : World) (x : Int) : ReadsInt (W.alloc (.cells #[.int .i64 x] 3)) .i64 (some ⟨W.heap.size, 0, none⟩) 1 [x] := own_reads' (n := 1) (own_lit W W.heap.size 3 .i64 [x] (Nat.le_refl _) (by simp))
theorem take_no {W : World} {g A c n : Nat} {f : Nat → Bool} {ws : List Nat} (h : FmAt W g A c n f ws) (k : Int) (hk : k < 0 ∨ (cnt f n : Int) < k) :
    Calls Tryd.prog 15 #[.pointer (some ⟨g, 0, none⟩), .int .i64 k] W fun e w' => e = .returned (.tuple #[.slice none 0 0, .bool false]) ∧ Below W.heap.size W w' := by
  have HF := Lib.hid h
  have HI := Lib.hid (is_calls h)
  obtain ⟨m, hm⟩ : ∃ m : Int, (cnt f n : Int) = m := ⟨_, rfl⟩
  rw [hm] at hk
  have HM := Lib.hid hm
  clear h hm
  by_cases h0 : k < 0
  · have hd := decide_eq_true h0
    clear hk
    go_enter Tryd.func15, Tryd.ntmps15
    go_wp2_with fail
    refine wp_scope_jumps 0 (fun _ _ => False) (fun _ _ => 0) rfl ?_ (fun _ _ h => h.elim)
    go_wp2_with fail
    refine HI.out.mono ?_; rintro e w1 ⟨rfl, hb1⟩
    have HB := Lib.hid hb1
    clear hb1
    go_wp2
    simp only [Exit.jump]
    go_ret2
    exact ⟨rfl, HB.out⟩
  · have hd := decide_eq_false h0
    have hd2 := decide_eq_true (show m < k by omega)
    clear hk
    go_enter Tryd.func15, Tryd.ntmps15
    go_wp2_with fail
    refine wp_scope_jumps 0 (fun _ _ => False) (fun _ _ => 0) rfl ?_ (fun _ _ h => h.elim)
    go_wp2_with fail
    refine HI.out.mono ?_; rintro e w1 ⟨rfl, hb1⟩
    have HF1 := Lib.hid (HF.out.below hb1 (Nat.le_refl _))
    obtain ⟨c0, c1, c2⟩ := HF1.out.cells
    rw [HM.out] at c1
    have HB := Lib.hid hb1
    clear hb1
    go_wp2
    simp only [Exit.jump]
    go_ret2
    exact ⟨rfl, HB.out⟩
set_option maxHeartbeats 4000000 in
set_option maxRecDepth 100000 in
theorem take_calls {W : World} {g A c n : Nat} {f : Nat → Bool} {ws : List Nat} (h : FmAt W g A c n f ws) (hT : TZ W) (k : Nat) (hk : k ≤ cnt f n) :
    Calls Tryd.prog 15 #[.pointer (some ⟨g, 0, none⟩), .int .i64 (k : Int)] W fun e w' => ∃ (m : Nat) (v : Value) (ws' : List Nat), m ≤ n ∧ cnt f m = k ∧ e = .returned (.tuple #[v, .bool true]) ∧ FmAt w' g A c n (cutF f m) ws' ∧ w'.ownsRow W.heap.size 3 1 v (mem f m).length (nums .i64 (mem f m)) ∧ Only g A W w' := by
  have HF := Lib.hid h
  have HI := Lib.hid (is_calls h)
  have HT := Lib.hid hT
  have HK := Lib.hid hk
  have HLT := Lib.hid h.lt
  have HNN := Lib.hid h.nn
  obtain ⟨m, hm⟩ : ∃ m : Int, (cnt f n : Int) = m := ⟨_, rfl⟩
  have HM := Lib.hid hm
  have hd := decide_eq_false (show ¬ (k : Int) < 0 by omega)
  have hd2 := decide_eq_false (show ¬ m < (k : Int) by omega)
  obtain ⟨L, hL⟩ : ∃ L, ws.length = L := ⟨_, rfl⟩
  have HL := Lib.hid hL
  have HLn : Hid (L = (n + 63) / 64) := Lib.hid (by rw [← hL]; exact h.rep.len)
  clear h hm hT hk hL
  go_enter Tryd.func15, Tryd.ntmps15
  go_wp2_with fail
  refine wp_scope_jumps 0 (fun _ _ => False) (fun _ _ => 0) rfl ?_ (fun _ _ h => h.elim)
  go_wp2_with fail
  refine HI.out.mono ?_; rintro e w1 ⟨rfl, hb1⟩
  have HF1 := Lib.hid (HF.out.below hb1 (Nat.le_refl _))
  obtain ⟨c0, c1, c2⟩ := HF1.out.cells
  rw [HM.out] at c1
  rw [HL.out] at c2
  have HTS : Hid (TS W w1 g A c n f ws (.slice none 0 0) (mem f (64 * 0))) := Lib.hid ⟨HF1.out, own_nil _ _ _ _, hb1⟩
  clear hb1
  go_wp2_with fail
  refine wp_label ?_
  go_wp2_with fail
  clear c0 c1 c2 hd hd2
  go_loopw [31, 6] (fun iv lv V => ∃ at_ : Nat, at_ ≤ L ∧ iv = .int .i64 (at_ : Int) ∧ Aside0 (TS W V g A c n f ws lv (mem f (64 * at_))) ∧ Aside0 (cnt f (64 * at_) ≤ k)) (fun iv lv _ => L - (intOf iv).toNat)
  case atStart => exact ⟨0, Nat.zero_le _, rfl, ⟨HTS.out⟩, ⟨Nat.zero_le _⟩⟩
  case round =>
    obtain ⟨at_, hat, rfl, ⟨hts⟩, ⟨hcnt⟩⟩ := hrel
    have HTS1 := Lib.hid hts
    have HC1 := Lib.hid hcnt
    clear hts hcnt HTS
    by_cases hlt : at_ < L
    · have hd := decide_eq_true (show (at_ : Int) < (L : Int) by omega)
      obtain ⟨cw, _⟩ := HTS1.out.fm.word at_ (by rw [HL.out]; exact hlt)
      obtain ⟨x, hx⟩ : ∃ x, ws.getD at_ 0 = x := ⟨_, rfl⟩
      rw [hx] at cw
      have HX := Lib.hid hx
      have p1 : (0 ≤ (at_ : Int)) = True := eq_true (by omega)
      have p2 : ((at_ : Int) < (L : Int)) = True := eq_true (by omega)
      clear hx
      have HW0 : Hid (x < 2 ^ 64 ∧ ∀ j, j < 64 → x.testBit j = (decide (0 ≤ j) && f (64 * at_ + j))) := Lib.hid ⟨by rw [← HX.out]; exact HTS1.out.fm.rep.lt _, fun j hj => by
        have h := HTS1.out.fm.rep.bit (64 * at_ + j) (by rw [HL.out]; omega)
        rw [show (64 * at_ + j) / 64 = at_ by omega, show (64 * at_ + j) % 64 = j by omega, HX.out] at h
        rw [h]
        simp⟩
      go_wp2_with fail
      clear cw p1 p2 hd
      go_loopw [8, 6] (fun yv lv V => ∃ (t : Nat) (y : Nat), t ≤ 64 ∧ yv = .int .u64 (y : Int) ∧ Aside0 (TS W V g A c n f ws lv (mem f (64 * at_ + t))) ∧ Aside0 (cnt f (64 * at_ + t) ≤ k) ∧ Aside0 (y < 2 ^ 64 ∧ ∀ j, j < 64 → y.testBit j = (decide (t ≤ j) && f (64 * at_ + j)))) (fun yv lv _ => (intOf yv).toNat)
      case atStart => exact ⟨0, x, by omega, rfl, ⟨HTS1.out⟩, ⟨HC1.out⟩, ⟨HW0.out⟩⟩
      case round =>
        obtain ⟨t, y, ht, rfl, ⟨hts⟩, ⟨hcnt⟩, ⟨hy⟩⟩ := hrel
        have HTS2 := Lib.hid hts
        have HC2 := Lib.hid hcnt
        have HY := Lib.hid hy
        have Ht := Lib.hid ht
        have HAt := Lib.hid hat
        have HLt := Lib.hid hlt
        clear hts hcnt hy HTS1 HC1 HW0 ht hat hlt
        obtain ⟨A6, c6, rfl, hr6⟩ := own_reads HTS2.out.row
        clear hr6
        by_cases hy0 : y = 0
        · subst hy0
          have hd : (!((0 : Nat) : Int) == 0) = false := rfl
          have HM2 : Hid (mem f (64 * at_ + t) = mem f (64 * (at_ + 1))) := Lib.hid (mem_skip f (64 * at_ + t) (64 * (at_ + 1)) (by have := Ht.out; omega) (fun i h1 h2 => by
            have h := HY.out.2 (i - 64 * at_) (by omega)
            rw [decide_eq_true (by omega), Bool.true_and, show 64 * at_ + (i - 64 * at_) = i by omega] at h
            rw [← h]; simp)).symm
          have hnx : wrap64 ((at_ : Int) + 1) = ((at_ + 1 : Nat) : Int) := by have h1 := HLt.out; have h2 := HLn.out; have h3 := HNN.out; unfold wrap64; omega
          have HTS3 := Lib.hid HTS2.out
          rw [HM2.out] at HTS3
          have HCn : Hid (cnt f (64 * (at_ + 1)) ≤ k) := Lib.hid (by rw [← mem_length, ← HM2.out, mem_length]; exact HC2.out)
          rw [HM2.out]
          go_wp2
          go_roundw
          case rel => exact ⟨at_ + 1, HLt.out, by first | rfl | rw [hnx], ⟨HTS3.out⟩, ⟨HCn.out⟩⟩
          case measure => have h1 := HLt.out; first | (rw [hnx]; simp [intOf]; omega) | (simp [intOf]; omega)
        · have hd : ((y : Int) == 0) = false := by simp; omega
          obtain ⟨l, hl⟩ : ∃ l, mem f (64 * at_ + t) = l := ⟨_, rfl⟩
          have HMl := Lib.hid hl
          rw [hl] at HTS2
          rw [hl]
          have hll : l.length = cnt f (64 * at_ + t) := by rw [← hl, mem_length]
          clear hl
          by_cases hk2 : l.length = k
          · have hdk : ((l.length : Int) == (k : Int)) = true := by rw [hk2]; simp
            have HMp : Hid (∃ m, m ≤ n ∧ cnt f m = k ∧ l = mem f m) := Lib.hid (by
              obtain ⟨m, h1, h2, h3⟩ := take_cut f n k HK.out
              refine ⟨m, h1, h2, ?_⟩
              have h4 : (mem f m).length = l.length := by rw [mem_length, h2, hk2]
              rw [← HMl.out] at h4 ⊢
              by_cases h5 : m ≤ 64 * at_ + t
              · obtain ⟨r, hr⟩ := mem_more f m _ h5
                rw [hr, List.length_append] at h4
                have : r = [] := List.eq_nil_of_length_eq_zero (by omega)
                rw [hr, this, List.append_nil]
              · obtain ⟨r, hr⟩ := mem_more f _ m (Nat.le_of_lt (Nat.lt_of_not_le h5))
                rw [hr, List.length_append] at h4
                have : r = [] := List.eq_nil_of_length_eq_zero (by omega)
                rw [hr, this, List.append_nil])
            have HTSp := Lib.hid HTS2.out
            clear hll hk2
            go_wp2
            clear hd hdk
            obtain ⟨m', hmn, hmk, hml⟩ := HMp.out
            obtain ⟨N, hN⟩ : ∃ N, l.length = N := ⟨_, rfl⟩
            have HRow0 := Lib.hid HTSp.out.row
            have HFm0 := Lib.hid HTSp.out.fm
            have HBe0 := Lib.hid HTSp.out.below
            rw [hN] at HRow0
            rw [hN]
            have HNl := Lib.hid hN
            clear HTS2 HTSp hN
            have HO0 : Hid (Only g A W wr) := Lib.hid (Only.of HBe0.out (Nat.le_refl _))
            try generalize Value.bool ((y : Int) != 0) = u37
            go_loopw [57] (fun iv V => ∃ (j : Nat) (ws' : List Nat), j ≤ N ∧ iv = .int .i64 (j : Int) ∧ Aside0 (FmAt V g A c n (flips f (l.take j)) ws') ∧ Aside0 (V.ownsRow W.heap.size 3 1 (.slice A6 N c6) N (nums .i64 l)) ∧ Aside0 (Only g A W V)) (fun iv _ => N - (intOf iv).toNat)
            case atStart => exact ⟨0, ws, Nat.zero_le _, rfl, ⟨by rw [List.take_zero]; exact HFm0.out⟩, ⟨HRow0.out⟩, ⟨HO0.out⟩⟩
            case round =>
              obtain ⟨j, ws', hj, rfl, ⟨hfm⟩, ⟨hrow⟩, ⟨ho⟩⟩ := hrel
              have HFj := Lib.hid hfm
              have HRj := Lib.hid hrow
              have HOj := Lib.hid ho
              clear hfm hrow ho
              by_cases hlt2 : j < N
              · have hd := decide_eq_true (show (j : Int) < (N : Int) by omega)
                obtain ⟨G6, rfl, hg6, _⟩ := own_form HRj.out (by omega)
                obtain ⟨cw, _⟩ := own_at HRj.out (j : Int) (by omega) (by omega)
                rw [Int.toNat_natCast] at cw
                have hjl : j < l.length := by rw [HNl.out]; exact hlt2
                obtain ⟨i, hin, hi, _⟩ := (mem_iff f m' (l[j])).1 (by rw [← hml]; exact List.getElem_mem _)
                have hrd : rd l (j : Int) = (i : Int) := by unfold rd; rw [Int.toNat_natCast, List.getD_eq_getElem?_getD, List.getElem?_eq_getElem hjl]; exact hi
                rw [hrd] at cw
                have p1 : (0 ≤ (j : Int)) = True := eq_true (by omega)
                have p2 : ((j : Int) < (N : Int)) = True := eq_true (by omega)
                have HTk : Hid (flips f (l.take (j + 1)) = flip (flips f (l.take j)) i) := Lib.hid (by rw [List.take_add_one, List.getElem?_eq_getElem hjl, flips_append, hi]; rfl)
                have HTn := Lib.hid (turn_calls HFj.out i (by omega))
                have hnx : wrap64 ((j : Int) + 1) = ((j + 1 : Nat) : Int) := by have h1 := cnt_le f m'; have h2 := HNN.out; have h3 : N = cnt f m' := by rw [← HNl.out, hml, mem_length]
                                                                                clear hd p1 p2; unfold wrap64; omega
                have Hlt2 := Lib.hid hlt2
                have Hg6 := Lib.hid hg6
                clear hi hin hrd hlt2 hg6 hj hjl
                go_wp2_with fail
                refine HTn.out.mono ?_; rintro e wt ⟨rfl, ⟨ws2, hfm2⟩, ho2⟩
                have HF2 := Lib.hid hfm2
                rw [← HTk.out] at HF2
                have HO2 := Lib.hid (HOj.out.trans ho2)
                have HR2 := Lib.hid (own_move HRj.out (w1 := wt) (fun k hk => by
                  have hkk : G6 = k := by injection hk
                  have h1 := HLT.out
                  have h2 := Hg6.out
                  have h3 := own_lt HRj.out G6 rfl
                  rw [← hkk]
                  exact ho2.block G6 h3 (by omega) (by omega)))
                clear hfm2 ho2 cw p1 p2 hd
                go_wp2
                go_roundw
                case rel => exact ⟨j + 1, ws2, Hlt2.out, by first | rfl | rw [hnx], ⟨HF2.out⟩, ⟨HR2.out⟩, ⟨HO2.out⟩⟩
                case measure => have h1 := Hlt2.out; first | (rw [hnx]; simp [intOf]; omega) | (simp [intOf]; omega)
              · obtain rfl : j = N := by omega
                have hd := decide_eq_false (show ¬ (j : Int) < (j : Int) by omega)
                have HFe := Lib.hid HFj.out
                rw [List.take_of_length_le (by rw [HNl.out]; exact Nat.le_refl _), hml, flips_mem] at HFe
                go_wp2
                simp only [Exit.jump]
                go_ret2
                exact ⟨m', _, ws', hmn, hmk, rfl, HFe.out, by rw [← hml, HNl.out]; exact HRj.out, HOj.out⟩
          · have hdk : ((l.length : Int) == (k : Int)) = false := by simp; omega
            obtain ⟨hq64, hqt, hqn, hqc⟩ := low_bit y hy0 HY.out.1
            have HTz := Lib.hid (tz_calls y HY.out.1 hy0 wr (HT.out.below HTS2.out.below HT.out.lt))
            obtain ⟨q, hq⟩ : ∃ q, Lib.ctz 64 y = q := ⟨_, rfl⟩
            rw [hq] at hq64 hqt hqn hqc HTz
            have htq : t ≤ q ∧ f (64 * at_ + q) = true := by
              have h := HY.out.2 q hq64
              rw [hqt] at h
              have h2 := (Bool.and_eq_true _ _).mp h.symm
              exact ⟨of_decide_eq_true h2.1, h2.2⟩
            have Htq := Lib.hid htq
            have Hqn := Lib.hid hqn
            have Hqc := Lib.hid hqc
            have Hq64 := Lib.hid hq64
            have hby : cnt f (64 * at_ + t) ≤ 131072 := Nat.le_trans HC2.out (by have := HK.out; have := cnt_le f n; have := HNN.out; omega)
            have HLl : Hid (l.length < k ∧ l.length ≤ 131072) := Lib.hid ⟨by have := HC2.out; omega, by omega⟩
            have h2k : at_ ≤ 2050 := by have h1 := HLt.out; have h2 := HLn.out; have h3 := HNN.out; omega
            have hw1 : wrap64 (64 * (at_ : Int)) = 64 * (at_ : Int) := by unfold wrap64; omega
            obtain ⟨z, hz⟩ : ∃ z : Nat, 64 * at_ + q = z := ⟨_, rfl⟩
            have Hz := Lib.hid hz
            have hw2 : wrap64 (64 * (at_ : Int) + (q : Int)) = (z : Int) := by unfold wrap64; omega
            obtain ⟨y2, hy2⟩ : ∃ y2, y &&& (y - 1) = y2 := ⟨_, rfl⟩
            have Hy2 := Lib.hid hy2
            have hand : bits .and .u64 (y : Int) (IntKind.u64.wrap ((y : Int) - 1)) = (y2 : Int) := by
              have h1 : IntKind.u64.wrap ((y : Int) - 1) = ((y - 1 : Nat) : Int) := by have := HY.out.1; rw [IntKind.wrap_u64]; omega
              rw [h1, u64_and_nat _ _ HY.out.1 (by have := HY.out.1; omega), hy2]
            have Hy0 := Lib.hid hy0
            clear hq hq64 hqt hqn hqc htq hby h2k hz hy2 hll hk2 hy0
            go_wp2_with fail
            refine HTz.out.mono ?_; rintro e wt ⟨rfl, rfl⟩
            have HQl := Lib.hid (HTS2.out.under (below_alloc (Below.refl wt.heap.size wt) (.cells #[.int .i64 (z : Int)] 3)))
            go_wp2_with (at_builtin; refine print_append_row (w0 := W) W.heap.size rfl (.tmp 46) (.tmp 52) 22 3 .i64 8 rfl Tryd.underlying22 infoInt (by decide) _ l [(z : Int)] (some ⟨wt.heap.size, 0, none⟩) 1 1 rfl rfl HQl.out.row (litI wt (z : Int)) HQl.out.below HQl.out.below.size (by have := HLl.out; omega) ?_; intro uo Wo hoo hbo hgo _; have HQo := Lib.hid (HQl.out.app HLT.out hoo hbo hgo); clear hoo hbo hgo)
            clear hd hdk hw1 hw2 hand
            have HQ2 : Hid (TS W Wo g A c n f ws uo (mem f (64 * at_ + (q + 1)))) := Lib.hid (by
              have h1 : mem f (64 * at_ + q) = l := by
                rw [← HMl.out]
                exact mem_skip f (64 * at_ + t) (64 * at_ + q) (by have := Htq.out; omega) (fun i h1 h2 => by
                  have h3 := Hqn.out (i - 64 * at_) (by omega)
                  have h4 := HY.out.2 (i - 64 * at_) (by have := Hq64.out; omega)
                  rw [h3, decide_eq_true (by omega), Bool.true_and, show 64 * at_ + (i - 64 * at_) = i by omega] at h4
                  exact h4.symm)
              have h2 : mem f (64 * at_ + (q + 1)) = l ++ [(z : Int)] := by
                show mem f (64 * at_ + q) ++ (if f (64 * at_ + q) then [((64 * at_ + q : Nat) : Int)] else []) = _
                rw [h1, Htq.out.2, if_pos rfl, Hz.out]
              rw [h2]
              exact HQo.out)
            have HC3 : Hid (cnt f (64 * at_ + (q + 1)) ≤ k) := Lib.hid (by
              have h1 := HQ2.out.row.1
              have h2 := HQo.out.row.1
              have h3 : mem f (64 * at_ + (q + 1)) = l ++ [(z : Int)] := by
                have h1 : mem f (64 * at_ + q) = l := by
                  rw [← HMl.out]
                  exact mem_skip f (64 * at_ + t) (64 * at_ + q) (by have := Htq.out; omega) (fun i h1 h2 => by
                    have h3 := Hqn.out (i - 64 * at_) (by omega)
                    have h4 := HY.out.2 (i - 64 * at_) (by have := Hq64.out; omega)
                    rw [h3, decide_eq_true (by omega), Bool.true_and, show 64 * at_ + (i - 64 * at_) = i by omega] at h4
                    exact h4.symm)
                show mem f (64 * at_ + q) ++ (if f (64 * at_ + q) then [((64 * at_ + q : Nat) : Int)] else []) = _
                rw [h1, Htq.out.2, if_pos rfl, Hz.out]
              rw [← mem_length, h3, List.length_append]
              have := HLl.out.1
              simp
              omega)
            have HY2 : Hid (y2 < 2 ^ 64 ∧ ∀ j, j < 64 → y2.testBit j = (decide (q + 1 ≤ j) && f (64 * at_ + j))) := Lib.hid (by
              rw [← Hy2.out]
              refine ⟨Nat.lt_of_le_of_lt Nat.and_le_left HY.out.1, fun j hj => ?_⟩
              rw [Hqc.out j, HY.out.2 j hj]
              by_cases h1 : j < q
              · rw [← HY.out.2 j hj, Hqn.out j h1, decide_eq_false (show ¬ q + 1 ≤ j by omega)]
                rfl
              · by_cases h2 : j = q
                · rw [decide_eq_false (show ¬ q + 1 ≤ j by omega), decide_eq_false (show ¬ j ≠ q by simpa using h2)]
                  simp
                · rw [decide_eq_true (show q + 1 ≤ j by omega), decide_eq_true (show j ≠ q from h2), decide_eq_true (show t ≤ j by have := Htq.out; omega)]
                  simp)
            have HD : Hid (y2 < y) := Lib.hid (by
              rw [← Hy2.out]
              have h1 : y &&& (y - 1) ≤ y - 1 := Nat.and_le_right
              have := Hy0.out
              omega)
            go_roundw
            case rel => exact ⟨q + 1, y2, Hq64.out, rfl, ⟨HQ2.out⟩, ⟨HC3.out⟩, ⟨HY2.out⟩⟩
            case measure => have := HD.out; simp [intOf]; omega
    · obtain rfl : at_ = L := by omega
      have hd := decide_eq_false (show ¬ (at_ : Int) < (at_ : Int) by omega)
      obtain ⟨A6, c6, rfl, hr6⟩ := own_reads HTS1.out.row
      clear hr6
      have h64 : mem f (64 * at_) = mem f n := mem_skip f n (64 * at_) (by have := HLn.out; omega) (fun i h1 _ => HTS1.out.fm.rep.out i h1)
      have HMp : Hid (∃ m, m ≤ n ∧ cnt f m = k ∧ mem f (64 * at_) = mem f m) := Lib.hid ⟨n, Nat.le_refl _, by
        have h1 : cnt f (64 * at_) = cnt f n := by rw [← mem_length, h64, mem_length]
        have h2 := HC1.out
        have h3 := HK.out
        omega, h64⟩
      obtain ⟨l, hl⟩ : ∃ l, mem f (64 * at_) = l := ⟨_, rfl⟩
      rw [hl] at HTS1 HMp
      rw [hl]
      have HTSp := Lib.hid HTS1.out
      have HTS2 := Lib.hid HTS1.out
      clear h64 hl HTS1
      go_wp2
      clear hd
      obtain ⟨m', hmn, hmk, hml⟩ := HMp.out
      obtain ⟨N, hN⟩ : ∃ N, l.length = N := ⟨_, rfl⟩
      have HRow0 := Lib.hid HTSp.out.row
      have HFm0 := Lib.hid HTSp.out.fm
      have HBe0 := Lib.hid HTSp.out.below
      rw [hN] at HRow0
      rw [hN]
      have HNl := Lib.hid hN
      clear HTS2 HTSp hN
      have HO0 : Hid (Only g A W wr) := Lib.hid (Only.of HBe0.out (Nat.le_refl _))
      try generalize Value.bool ((y : Int) != 0) = u37
      go_loopw [57] (fun iv V => ∃ (j : Nat) (ws' : List Nat), j ≤ N ∧ iv = .int .i64 (j : Int) ∧ Aside0 (FmAt V g A c n (flips f (l.take j)) ws') ∧ Aside0 (V.ownsRow W.heap.size 3 1 (.slice A6 N c6) N (nums .i64 l)) ∧ Aside0 (Only g A W V)) (fun iv _ => N - (intOf iv).toNat)
      case atStart => exact ⟨0, ws, Nat.zero_le _, rfl, ⟨by rw [List.take_zero]; exact HFm0.out⟩, ⟨HRow0.out⟩, ⟨HO0.out⟩⟩
      case round =>
        obtain ⟨j, ws', hj, rfl, ⟨hfm⟩, ⟨hrow⟩, ⟨ho⟩⟩ := hrel
        have HFj := Lib.hid hfm
        have HRj := Lib.hid hrow
        have HOj := Lib.hid ho
        clear hfm hrow ho
        by_cases hlt2 : j < N
        · have hd := decide_eq_true (show (j : Int) < (N : Int) by omega)
          obtain ⟨G6, rfl, hg6, _⟩ := own_form HRj.out (by omega)
          obtain ⟨cw, _⟩ := own_at HRj.out (j : Int) (by omega) (by omega)
          rw [Int.toNat_natCast] at cw
          have hjl : j < l.length := by rw [HNl.out]; exact hlt2
          obtain ⟨i, hin, hi, _⟩ := (mem_iff f m' (l[j])).1 (by rw [← hml]; exact List.getElem_mem _)
          have hrd : rd l (j : Int) = (i : Int) := by unfold rd; rw [Int.toNat_natCast, List.getD_eq_getElem?_getD, List.getElem?_eq_getElem hjl]; exact hi
          rw [hrd] at cw
          have p1 : (0 ≤ (j : Int)) = True := eq_true (by omega)
          have p2 : ((j : Int) < (N : Int)) = True := eq_true (by omega)
          have HTk : Hid (flips f (l.take (j + 1)) = flip (flips f (l.take j)) i) := Lib.hid (by rw [List.take_add_one, List.getElem?_eq_getElem hjl, flips_append, hi]; rfl)
          have HTn := Lib.hid (turn_calls HFj.out i (by omega))
          have hnx : wrap64 ((j : Int) + 1) = ((j + 1 : Nat) : Int) := by have h1 := cnt_le f m'; have h2 := HNN.out; have h3 : N = cnt f m' := by rw [← HNl.out, hml, mem_length]
                                                                          clear hd p1 p2; unfold wrap64; omega
          have Hlt2 := Lib.hid hlt2
          have Hg6 := Lib.hid hg6
          clear hi hin hrd hlt2 hg6 hj hjl
          go_wp2_with fail
          refine HTn.out.mono ?_; rintro e wt ⟨rfl, ⟨ws2, hfm2⟩, ho2⟩
          have HF2 := Lib.hid hfm2
          rw [← HTk.out] at HF2
          have HO2 := Lib.hid (HOj.out.trans ho2)
          have HR2 := Lib.hid (own_move HRj.out (w1 := wt) (fun k hk => by
            have hkk : G6 = k := by injection hk
            have h1 := HLT.out
            have h2 := Hg6.out
            have h3 := own_lt HRj.out G6 rfl
            rw [← hkk]
            exact ho2.block G6 h3 (by omega) (by omega)))
          clear hfm2 ho2 cw p1 p2 hd
          go_wp2
          go_roundw
          case rel => exact ⟨j + 1, ws2, Hlt2.out, by first | rfl | rw [hnx], ⟨HF2.out⟩, ⟨HR2.out⟩, ⟨HO2.out⟩⟩
          case measure => have h1 := Hlt2.out; first | (rw [hnx]; simp [intOf]; omega) | (simp [intOf]; omega)
        · obtain rfl : j = N := by omega
          have hd := decide_eq_false (show ¬ (j : Int) < (j : Int) by omega)
          have HFe := Lib.hid HFj.out
          rw [List.take_of_length_le (by rw [HNl.out]; exact Nat.le_refl _), hml, flips_mem] at HFe
          go_wp2
          simp only [Exit.jump]
          go_ret2
          exact ⟨m', _, ws', hmn, hmk, rfl, HFe.out, by rw [← hml, HNl.out]; exact HRj.out, HOj.out⟩
end Go.Proofs.YtdjjmmndfbffcaaDoor.FM

namespace Go.Proofs.YtdjjmmndfbffcaaDoor.FM
open Go.RowKit Go.Sort Go.Proofs.YtdjjmmndfbffcaaDoorW.PrintWords Go.Proofs.YtdjjmmndfbffcaaDoorW.PrintLast Go.Proofs.YtdjjmmndfbffcaaDoorW.PrintMore
set_option linter.unusedVariables false
set_option linter.unusedSimpArgs false
theorem clonei_calls (P : Option Addr) (N cap : Nat) (l : List Int) (W : World) (hr : ReadsInt W .i64 P N l) (hs : N * 8 ≤ 140737488355328) :
    Calls Tryd.prog 46 #[.slice P N cap] W fun e w' => ∃ v, e = .returned v ∧ w'.ownsRow W.heap.size 3 1 v l.length (nums .i64 l) ∧ Below W.heap.size W w' := by
  have hl : l.length = N := hr.1
  by_cases h0 : N = 0
  · subst h0
    have hnil : l = [] := List.eq_nil_of_length_eq_zero hl
    subst hnil
    cases P with
    | none => exact (Tryd.slices_Clone_int_nil 0 cap W).mono fun e w' ⟨he, hw⟩ => ⟨_, he, by rw [hw]; exact own_nil _ _ _ _, by rw [hw]; exact Below.refl _ _⟩
    | some a => exact (Tryd.slices_Clone_int_zero a cap W).mono fun e w' ⟨v, he, ho, _, hb⟩ => ⟨v, he, ho, hb⟩
  · obtain ⟨ad, rfl, hc⟩ := hr.2.2 (by omega)
    obtain ⟨b, off, spot⟩ := ad
    have g0 := hc 0 (by omega)
    have hspot : spot = none := by
      have := World.cell?_spot g0
      simpa [Addr.add] using this
    subst hspot
    refine (Tryd.slices_Clone_int b off N cap l W (by omega) hs (fun j hj => ?_)).mono fun e w' ⟨v, he, ho, _, hb⟩ => ⟨v, he, ?_, hb⟩
    · have := hc j (by omega)
      rwa [Addr.add_mid] at this
    · rw [hl]
      rw [← hl, List.take_length] at ho
      rw [← hl]
      exact ho
theorem row_put {W : World} {base g cap : Nat} {l l' : List Int} (h : W.ownsRow base 3 1 (.slice (some ⟨g, 0, none⟩) l.length cap) l.length (nums .i64 l)) (hl : l'.length = l.length) (n : Nat) (os : Array Obj) :
    (grow (putRow (Value.int .i64) (Go.Sort.ahead W n) g 0 l'.toArray) os).ownsRow base 3 1 (.slice (some ⟨g, 0, none⟩) l'.length cap) l'.length (nums .i64 l') ∧ W.grownBy (grow (putRow (Value.int .i64) (Go.Sort.ahead W n) g 0 l'.toArray) os) (some g) := by
  have hlt := own_lt h g rfl
  rcases h.2 with ⟨h', _⟩ | ⟨g', cap', cur, h', hb, hh, hn, hcm, hcs, htk⟩
  · cases h'
  · obtain ⟨rfl, rfl⟩ : g = g' ∧ cap = cap' := by injection h' with h1 h2 h3; injection h1 with h1; injection h1 with h1; exact ⟨h1, h3⟩
    have hheap : (grow (putRow (Value.int .i64) (Go.Sort.ahead W n) g 0 l'.toArray) os).heap[g]? = some (.cells (putCells (Value.int .i64) 0 l'.toArray cur) 3 (0, 0)) := by
      rw [heap_grow_old _ _ (by simpa using hlt)]
      unfold putRow mapBlock
      show ((W.heap.modify g (onCells (putCells (Value.int .i64) 0 l'.toArray))))[g]? = _
      rw [Array.getElem?_modify]
      simp [hh, onCells]
    refine ⟨⟨by simp [nums], .inr ⟨g, cap, _, rfl, hb, hheap, by omega, hcm, ?_, ?_⟩⟩, ⟨rfl, rfl, rfl, by simp, fun k hk hne => ?_⟩⟩
    · unfold putCells
      simp only [Array.size_mapIdx]
      exact hcs
    · apply List.ext_getElem?
      intro i
      rw [Nat.mul_one, List.getElem?_take]
      by_cases hi : i < l'.length
      · rw [if_pos hi]
        have hic : i < cur.size := by omega
        unfold putCells nums
        simp [hi, hic]
      · rw [if_neg hi]
        unfold nums
        rw [List.getElem?_eq_none (by simpa using Nat.le_of_not_lt hi)]
    · rw [heap_grow_old _ _ (by simpa using hk)]
      unfold putRow mapBlock
      show ((W.heap.modify g (onCells (putCells (Value.int .i64) 0 l'.toArray))))[k]? = _
      rw [Array.getElem?_modify, if_neg (fun e => hne (by rw [e]))]
def sortL (l : List Int) : List Int := l.mergeSort fun x y => decide (x ≤ y)
theorem sortL_perm (l : List Int) : (sortL l).Perm l := List.mergeSort_perm _ _
theorem sortL_sorted (l : List Int) : (sortL l).Pairwise (· ≤ ·) := by
  have h := List.pairwise_mergeSort (le := fun x y : Int => decide (x ≤ y)) (fun a b c h1 h2 => by simp at h1 h2 ⊢; omega) (fun a b => by simp; omega) l
  exact h.imp fun h => by simpa using h
theorem sorti_calls {W : World} {base : Nat} {v : Value} {l : List Int} (h : W.ownsRow base 3 1 v l.length (nums .i64 l)) (hs : l.length < 4611686018427387904) :
    Calls Tryd.prog 47 #[v] W fun e w' => e = .returned (.tuple #[]) ∧ w'.ownsRow base 3 1 v (sortL l).length (nums .i64 (sortL l)) ∧ W.grownBy w' v.ownBlock := by
  have hlen : (sortL l).length = l.length := (sortL_perm l).length_eq
  obtain ⟨A, c, rfl⟩ := own_slice h
  by_cases h0 : l.length = 0
  · have hnil : l = [] := List.eq_nil_of_length_eq_zero h0
    subst hnil
    refine (Tryd.slices_Sort_int_none A c W).mono fun e w' ⟨he, hw⟩ => ⟨he, ?_, ?_⟩
    · rw [hw]
      have : sortL [] = [] := by simp [sortL]
      rw [this]
      exact h
    · rw [hw]
      exact World.grownBy.refl _ _
  · obtain ⟨g, rfl, hb, hlt⟩ := own_form h (by omega)
    refine (Tryd.slices_Sort_int g 0 c l W (fun j hj => ?_) hlt hs).mono fun e w' ⟨he, n, os, hw⟩ => ⟨he, ?_, ?_⟩
    · have hj' : j < l.length := by simpa using hj
      have := own_at h (j : Int) (by omega) (by omega)
      rw [Int.toNat_natCast] at this
      rw [Nat.zero_add]
      refine ⟨this.1.trans ?_, this.2⟩
      congr 2
      unfold Go.Proofs.YtdjjmmndfbffcaaDoorW.PrintWords.rd
      rw [Int.toNat_natCast, List.getD_eq_getElem?_getD, List.getElem?_eq_getElem hj', getElem!_pos _ j hj]
      rfl
    · have := (row_put (l' := sortL l) h hlen n os).1
      rw [hw, ← hlen]
      exact this
    · rw [hw]
      exact (row_put (l' := sortL l) h hlen n os).2
theorem sorted_nodup (s : List Int) (h : s.Pairwise (· ≤ ·)) (ha : ∀ j (h1 : j < s.length) (h0 : 0 < j), s[j - 1] ≠ s[j]) : s.Nodup := by
  rw [List.nodup_iff_pairwise_ne, List.pairwise_iff_getElem]
  intro i j hi hj hij e
  have hp := List.pairwise_iff_getElem.1 h
  have h1 : s[j - 1] ≤ s[j] := hp (j - 1) j (by omega) hj (by omega)
  have h2 := ha j hj (by omega)
  have h3 : s[i] ≤ s[j - 1] := by
    by_cases e2 : i = j - 1
    · subst e2; exact Int.le_refl _
    · exact hp i (j - 1) hi (by omega) (by omega)
  omega
def chB (n : Nat) (f : Nat → Bool) (so : Bool) (l : List Int) : Prop := (∀ x ∈ l, 0 ≤ x ∧ x < (n : Int) ∧ f x.toNat = so) ∧ l.Nodup
theorem chB_sort {n : Nat} {f : Nat → Bool} {so : Bool} {l : List Int} : chB n f so (sortL l) ↔ chB n f so l := by
  have hp := sortL_perm l
  exact ⟨fun h => ⟨fun x hx => h.1 x (hp.mem_iff.2 hx), hp.nodup_iff.1 h.2⟩, fun h => ⟨fun x hx => h.1 x (hp.mem_iff.1 hx), hp.nodup_iff.2 h.2⟩⟩
theorem flips_sort {n : Nat} {f : Nat → Bool} {so : Bool} {l : List Int} (h : chB n f so l) : flips f (sortL l) = flips f l := by
  have hp := sortL_perm l
  have h1 : Unlike l := ⟨h.2, fun x hx => (h.1 x hx).1⟩
  have h2 : Unlike (sortL l) := ⟨hp.nodup_iff.2 h.2, fun x hx => h1.2 x (hp.mem_iff.1 hx)⟩
  funext j
  rw [flips_at _ f j h1, flips_at _ f j h2]
  by_cases hj : (j : Int) ∈ l
  · rw [if_pos hj, if_pos (hp.mem_iff.2 hj)]
  · rw [if_neg hj, if_neg (fun h => hj (hp.mem_iff.1 h))]
end Go.Proofs.YtdjjmmndfbffcaaDoor.FM

namespace Go.Proofs.YtdjjmmndfbffcaaDoor.FM
open Go.RowKit Go.Proofs.YtdjjmmndfbffcaaDoorW.PrintWords Go.Proofs.YtdjjmmndfbffcaaDoorW.PrintLast Go.Proofs.YtdjjmmndfbffcaaDoorW.PrintMore
set_option linter.unusedVariables false
set_option linter.unusedSimpArgs false
set_option maxHeartbeats 4000000 in
set_option maxRecDepth 100000 in
theorem change_calls {W : World} {g A c n : Nat} {f : Nat → Bool} {ws : List Nat} (h : FmAt W g A c n f ws) (so : Bool) (P : Option Addr) (M cap : Nat) (l0 : List Int) (hr : ReadsInt W .i64 P M l0) (hs : M * 8 ≤ 140737488355328) :
    Calls Tryd.prog 40 #[.pointer (some ⟨g, 0, none⟩), .slice P M cap, .bool so] W fun e w' => ∃ (f' : Nat → Bool) (ws' : List Nat), FmAt w' g A c n f' ws' ∧ Only g A W w' ∧ ((chB n f so l0 ∧ e = .returned (.int .i64 0) ∧ f' = flips f l0) ∨ (¬ chB n f so l0 ∧ e = .returned (.int .i64 2) ∧ f' = f)) := by
  have HF := Lib.hid h
  have HI := Lib.hid (is_calls h)
  have HLT := Lib.hid h.lt
  have HNN := Lib.hid h.nn
  have HRd := Lib.hid hr
  have HS := Lib.hid hs
  clear h hr hs
  go_enter Tryd.func40, Tryd.ntmps40
  go_wp2_with fail
  refine HI.out.mono ?_; rintro e w1 ⟨rfl, hb1⟩
  have HF1 := Lib.hid (HF.out.below hb1 (Nat.le_refl _))
  have HRd1 := Lib.hid (HRd.out.below hb1)
  have HB1 := Lib.hid hb1
  clear hb1 HI
  go_wp2_with fail
  refine (clonei_calls P M cap l0 w1 HRd1.out HS.out).mono ?_; rintro e w2 ⟨v2, rfl, ho2, hb2⟩
  have HTS2 : Hid (TS W w2 g A c n f ws v2 l0) := Lib.hid ⟨HF1.out.below hb2 (Nat.le_refl _), own_weaken ho2 HB1.out.size, below_step HB1.out hb2⟩
  clear ho2 hb2
  go_wp2_with fail
  refine (sorti_calls HTS2.out.row (by have := HTS2.out.row.1; have h2 := HRd.out.1; have h3 := HS.out; omega)).mono ?_; rintro e w3 ⟨rfl, ho3, hg3⟩
  have HTS3 : Hid (TS W w3 g A c n f ws v2 (sortL l0)) := Lib.hid (HTS2.out.app HLT.out ho3 (HTS2.out.below.grown hg3 HTS2.out.below.size (fun k hk => own_base HTS2.out.row k hk)) hg3)
  clear ho3 hg3 HTS2
  obtain ⟨l, hl⟩ : ∃ l, sortL l0 = l := ⟨_, rfl⟩
  have HLe := Lib.hid hl
  rw [hl] at HTS3
  have HSo : Hid (l.Pairwise (· ≤ ·)) := Lib.hid (by rw [← hl]; exact sortL_sorted l0)
  have HCh : Hid (chB n f so l ↔ chB n f so l0) := Lib.hid (by rw [← hl]; exact chB_sort)
  have HFl : Hid (chB n f so l → flips f l = flips f l0) := Lib.hid (by rw [← hl]; exact fun h => flips_sort (chB_sort.1 h))
  have hN : l.length = M := by rw [← hl, (sortL_perm l0).length_eq, HRd.out.1]
  have HNl := Lib.hid hN
  obtain ⟨A6, c6, rfl⟩ := own_slice HTS3.out.row
  have HRow := Lib.hid HTS3.out.row
  have HFm := Lib.hid HTS3.out.fm
  have HBe := Lib.hid HTS3.out.below
  rw [hN] at HRow
  rw [hN]
  clear hl hN HTS3
  go_wp2_with fail
  go_loopw [21] (fun iv V => ∃ j : Nat, j ≤ M ∧ iv = .int .i64 (j : Int) ∧ Aside0 (FmAt V g A c n f ws) ∧ Aside0 (V.ownsRow W.heap.size 3 1 (.slice A6 M c6) M (nums .i64 l)) ∧ Aside0 (Below W.heap.size W V) ∧ Aside0 (∀ i, i < j → (0 ≤ l.getD i 0 ∧ l.getD i 0 < (n : Int) ∧ f (l.getD i 0).toNat = so) ∧ (0 < i → l.getD (i - 1) 0 ≠ l.getD i 0))) (fun iv _ => M - (intOf iv).toNat)
  case atStart => exact ⟨0, Nat.zero_le _, rfl, ⟨HFm.out⟩, ⟨HRow.out⟩, ⟨HBe.out⟩, ⟨fun i h => absurd h (by omega)⟩⟩
  case round =>
    obtain ⟨j, hj, rfl, ⟨hfm⟩, ⟨hrow⟩, ⟨hb⟩, ⟨hgood⟩⟩ := hrel
    have HFj := Lib.hid hfm
    have HRj := Lib.hid hrow
    have HBj := Lib.hid hb
    have HGood := Lib.hid hgood
    clear hfm hrow hb hgood HRow HFm HBe HF1 HRd1 HB1 HF
    by_cases hlt : j < M
    · have hd := decide_eq_true (show (j : Int) < (M : Int) by omega)
      obtain ⟨G6, rfl, hg6, _⟩ := own_form HRj.out (by omega)
      obtain ⟨cw, _⟩ := own_at HRj.out (j : Int) (by omega) (by omega)
      rw [Int.toNat_natCast] at cw
      have hjl : j < l.length := by rw [HNl.out]; exact hlt
      have hrd : rd l (j : Int) = l.getD j 0 := by unfold rd; rw [Int.toNat_natCast]
      obtain ⟨x, hx⟩ : ∃ x, l.getD j 0 = x := ⟨_, rfl⟩
      rw [hrd, hx] at cw
      have Hx := Lib.hid hx
      have HMem : Hid (x ∈ l) := Lib.hid (by rw [← hx, List.getD_eq_getElem?_getD, List.getElem?_eq_getElem hjl]; exact List.getElem_mem _)
      have p1 : (0 ≤ (j : Int)) = True := eq_true (by omega)
      have p2 : ((j : Int) < (M : Int)) = True := eq_true (by omega)
      obtain ⟨c0, _, _⟩ := HFj.out.cells
      have HBad : Hid (¬ chB n f so l → ∃ (f' : Nat → Bool) (ws' : List Nat), f' = f ∧ ¬ chB n f so l0) := Lib.hid (fun h => ⟨f, ws, rfl, fun h2 => h (HCh.out.2 h2)⟩)
      have Hg6 := Lib.hid hg6
      have Hlt := Lib.hid hlt
      have Hjl := Lib.hid hjl
      clear hrd hx hg6 hlt hjl hj
      by_cases hx0 : x < 0
      · have hd1 := decide_eq_true hx0
        have HNo : Hid (¬ chB n f so l) := Lib.hid (fun h => by have := (h.1 x HMem.out).1; omega)
        clear hx0
        go_wp2
        go_ret
        exact ⟨f, ws, HFj.out, Only.of HBj.out (Nat.le_refl _), .inr ⟨fun h => HNo.out (HCh.out.2 h), rfl, rfl⟩⟩
      · have hd1 := decide_eq_false hx0
        by_cases hxn : (n : Int) ≤ x
        · have hd2 := decide_eq_true hxn
          have HNo : Hid (¬ chB n f so l) := Lib.hid (fun h => by have := (h.1 x HMem.out).2.1; omega)
          clear hx0 hxn
          go_wp2
          go_ret
          exact ⟨f, ws, HFj.out, Only.of HBj.out (Nat.le_refl _), .inr ⟨fun h => HNo.out (HCh.out.2 h), rfl, rfl⟩⟩
        · have hd2 := decide_eq_false hxn
          obtain ⟨i, hi⟩ : ∃ i : Nat, x = (i : Int) := ⟨x.toNat, by omega⟩
          have HHas := Lib.hid (has_calls HFj.out x)
          have Hin : Hid (i < n) := Lib.hid (by omega)
          have hhf : hasF f x = f i := by unfold hasF; rw [hi, Int.toNat_natCast, decide_eq_true (by omega), Bool.true_and]
          rw [hhf] at HHas
          have Hi := Lib.hid hi
          clear hx0 hxn hhf hi
          by_cases hso : f i = so
          · obtain ⟨b, hb⟩ : ∃ b, f i = b := ⟨_, rfl⟩
            have HSb : Hid (b = so) := Lib.hid (by rw [← hb]; exact hso)
            have Hfb := Lib.hid hb
            rw [hb] at HHas
            have hne : (b != so) = false := by rw [HSb.out]; simp
            clear hso hb
            go_wp2_with fail
            refine HHas.out.mono ?_; rintro e w4 ⟨rfl, hb4⟩
            have HF4 := Lib.hid (HFj.out.below hb4 (Nat.le_refl _))
            have HR4 := Lib.hid (pw_own_below HRj.out hb4)
            have HB4 := Lib.hid (below_step HBj.out hb4)
            clear hb4 cw c0
            have hnx : wrap64 ((j : Int) + 1) = ((j + 1 : Nat) : Int) := by have h1 := Hlt.out; have h2 := HS.out; clear hd p1 p2; unfold wrap64; omega
            by_cases hj0 : 0 < j
            · have hd4 := decide_eq_true (show 0 < j from hj0)
              obtain ⟨q, hq⟩ : ∃ q, j - 1 = q := ⟨_, rfl⟩
              have Hq : Hid (j = q + 1) := Lib.hid (by omega)
              have hwq : wrap64 ((j : Int) - 1) = (q : Int) := by have h1 := Hlt.out; have h2 := HS.out; clear hd p1 p2 hnx; unfold wrap64; omega
              obtain ⟨cq, _⟩ := own_at HR4.out (q : Int) (by omega) (by have := Hlt.out; omega)
              rw [Int.toNat_natCast] at cq
              have hrd : rd l (q : Int) = l.getD q 0 := by unfold rd; rw [Int.toNat_natCast]
              obtain ⟨y, hy⟩ : ∃ y, l.getD q 0 = y := ⟨_, rfl⟩
              rw [hrd, hy] at cq
              have Hy := Lib.hid hy
              have p3 : (0 ≤ (q : Int)) = True := eq_true (by omega)
              have p4 : ((q : Int) < (M : Int)) = True := eq_true (by have := Hlt.out; omega)
              clear hrd hy hq hj0 hnx
              by_cases hyx : y = x
              · have hdy : (y == x) = true := by rw [hyx]; simp
                have HNo : Hid (¬ chB n f so l) := Lib.hid (fun h => by
                  have h1 := Hjl.out
                  have h2 := Hq.out
                  have hp := List.pairwise_iff_getElem.1 (List.nodup_iff_pairwise_ne.1 h.2) q j (by omega) h1 (by omega)
                  apply hp
                  have e1 := Hy.out
                  have e2 := Hx.out
                  rw [List.getD_eq_getElem?_getD, List.getElem?_eq_getElem (show q < l.length by omega)] at e1
                  rw [List.getD_eq_getElem?_getD, List.getElem?_eq_getElem h1] at e2
                  simp only [Option.getD_some] at e1 e2
                  rw [e1, e2, hyx])
                have Hyx := Lib.hid hyx
                clear hyx
                go_wp2
                go_ret
                exact ⟨f, ws, HF4.out, Only.of HB4.out (Nat.le_refl _), .inr ⟨fun h => HNo.out (HCh.out.2 h), rfl, rfl⟩⟩
              · have hdy : (y == x) = false := by simp [hyx]
                have Hyx := Lib.hid hyx
                have hnx : wrap64 ((j : Int) + 1) = ((j + 1 : Nat) : Int) := by have h1 := Hlt.out; have h2 := HS.out; clear hd p1 p2 p3 p4 hwq hd4; unfold wrap64; omega
                clear hyx
                have HGd : Hid (∀ i, i < j + 1 → (0 ≤ l.getD i 0 ∧ l.getD i 0 < (n : Int) ∧ f (l.getD i 0).toNat = so) ∧ (0 < i → l.getD (i - 1) 0 ≠ l.getD i 0)) := Lib.hid (fun q_ hq => by
                  by_cases hqj : q_ < j
                  · exact HGood.out q_ hqj
                  · obtain rfl : q_ = j := by omega
                    rw [Hx.out]
                    refine ⟨⟨by have := Hi.out; omega, by have := Hi.out; have := Hin.out; omega, by rw [Hi.out, Int.toNat_natCast, Hfb.out, HSb.out]⟩, fun h0 => ?_⟩
                    rw [show q_ - 1 = q from by have := Hq.out; omega, Hy.out]; exact Hyx.out)
                go_wp2
                go_roundw
                case rel => exact ⟨j + 1, Hlt.out, by first | rfl | rw [hnx], ⟨HF4.out⟩, ⟨HR4.out⟩, ⟨HB4.out⟩, ⟨HGd.out⟩⟩
                case measure => have h1 := Hlt.out; first | (rw [hnx]; simp [intOf]; omega) | (simp [intOf]; omega)
            · have hd4 := decide_eq_false (show ¬ 0 < j from hj0)
              have Hj0 := Lib.hid hj0
              clear hj0
              have HGd : Hid (∀ i, i < j + 1 → (0 ≤ l.getD i 0 ∧ l.getD i 0 < (n : Int) ∧ f (l.getD i 0).toNat = so) ∧ (0 < i → l.getD (i - 1) 0 ≠ l.getD i 0)) := Lib.hid (fun q hq => by
                by_cases hqj : q < j
                · exact HGood.out q hqj
                · obtain rfl : q = j := by omega
                  rw [Hx.out]
                  refine ⟨⟨by have := Hi.out; omega, by have := Hi.out; have := Hin.out; omega, by rw [Hi.out, Int.toNat_natCast, Hfb.out, HSb.out]⟩, fun h0 => ?_⟩
                  exact absurd h0 Hj0.out)
              go_wp2
              go_roundw
              case rel => exact ⟨j + 1, Hlt.out, by first | rfl | rw [hnx], ⟨HF4.out⟩, ⟨HR4.out⟩, ⟨HB4.out⟩, ⟨HGd.out⟩⟩
              case measure => have h1 := Hlt.out; first | (rw [hnx]; simp [intOf]; omega) | (simp [intOf]; omega)
          · have HNo : Hid (¬ chB n f so l) := Lib.hid (fun h => by
              have := (h.1 x HMem.out).2.2
              rw [Hi.out, Int.toNat_natCast] at this
              exact hso this)
            have HX : Hid (¬ chB n f so l0) := Lib.hid (fun h => HNo.out (HCh.out.2 h))
            have hbs : f i = !so := by revert hso; cases f i <;> cases so <;> simp
            rw [hbs] at HHas
            clear hso hbs HNo HCh HFl HGood HSo HLe HBad
            cases so <;> (
              go_wp2_with fail
              refine HHas.out.mono ?_; rintro e w4 ⟨rfl, hb4⟩
              have HF4 := Lib.hid (HFj.out.below hb4 (Nat.le_refl _))
              have HB4 := Lib.hid (below_step HBj.out hb4)
              clear hb4 cw c0
              go_wp2
              go_ret
              exact ⟨f, ws, HF4.out, Only.of HB4.out (Nat.le_refl _), .inr ⟨HX.out, rfl, rfl⟩⟩)
    · obtain rfl : j = M := by omega
      have hd := decide_eq_false (show ¬ (j : Int) < (j : Int) by omega)
      have HC : Hid (chB n f so l) := Lib.hid (by
        have hg := HGood.out
        have hl := HNl.out
        refine ⟨fun x hx => ?_, sorted_nodup l HSo.out fun i h1 h0 => ?_⟩
        · obtain ⟨i, hi, rfl⟩ := List.mem_iff_getElem.1 hx
          have := (hg i (by omega)).1
          rw [List.getD_eq_getElem?_getD, List.getElem?_eq_getElem hi] at this
          exact this
        · have := (hg i (by omega)).2 h0
          rw [List.getD_eq_getElem?_getD, List.getD_eq_getElem?_getD, List.getElem?_eq_getElem h1, List.getElem?_eq_getElem (show i - 1 < l.length by omega)] at this
          exact this)
      clear hlt HGood
      go_wp2_with fail
      clear hd
      go_loopw [59] (fun iv V => ∃ (q : Nat) (ws' : List Nat), q ≤ j ∧ iv = .int .i64 (q : Int) ∧ Aside0 (FmAt V g A c n (flips f (l.take q)) ws') ∧ Aside0 (V.ownsRow W.heap.size 3 1 (.slice A6 j c6) j (nums .i64 l)) ∧ Aside0 (Only g A W V)) (fun iv _ => j - (intOf iv).toNat)
      case atStart => exact ⟨0, ws, Nat.zero_le _, rfl, ⟨by rw [List.take_zero]; exact HFj.out⟩, ⟨HRj.out⟩, ⟨Only.of HBj.out (Nat.le_refl _)⟩⟩
      case round =>
        obtain ⟨q, ws', hq, rfl, ⟨hfm⟩, ⟨hrow⟩, ⟨ho⟩⟩ := hrel
        have HFq := Lib.hid hfm
        have HRq := Lib.hid hrow
        have HOq := Lib.hid ho
        clear hfm hrow ho
        by_cases hlt2 : q < j
        · have hd := decide_eq_true (show (q : Int) < (j : Int) by omega)
          obtain ⟨G6, rfl, hg6, _⟩ := own_form HRq.out (by omega)
          obtain ⟨cw, _⟩ := own_at HRq.out (q : Int) (by omega) (by omega)
          rw [Int.toNat_natCast] at cw
          have hjl : q < l.length := by rw [HNl.out]; exact hlt2
          have hc := HC.out.1 (l[q]) (List.getElem_mem _)
          obtain ⟨i, hi⟩ : ∃ i : Nat, l[q] = (i : Int) := ⟨(l[q]).toNat, by omega⟩
          have hrd : rd l (q : Int) = (i : Int) := by unfold rd; rw [Int.toNat_natCast, List.getD_eq_getElem?_getD, List.getElem?_eq_getElem hjl]; exact hi
          rw [hrd] at cw
          have p1 : (0 ≤ (q : Int)) = True := eq_true (by omega)
          have p2 : ((q : Int) < (j : Int)) = True := eq_true (by omega)
          have HTk : Hid (flips f (l.take (q + 1)) = flip (flips f (l.take q)) i) := Lib.hid (by rw [List.take_add_one, List.getElem?_eq_getElem hjl, flips_append, hi]; rfl)
          have HTn := Lib.hid (turn_calls HFq.out i (by omega))
          have hnx : wrap64 ((q : Int) + 1) = ((q + 1 : Nat) : Int) := by have h2 := HS.out; clear hd p1 p2; unfold wrap64; omega
          have Hlt2 := Lib.hid hlt2
          have Hg6 := Lib.hid hg6
          clear hi hrd hlt2 hg6 hq hjl hc
          go_wp2_with fail
          refine HTn.out.mono ?_; rintro e wt ⟨rfl, ⟨ws2, hfm2⟩, ho2⟩
          have HF2 := Lib.hid hfm2
          rw [← HTk.out] at HF2
          have HO2 := Lib.hid (HOq.out.trans ho2)
          have HR2 := Lib.hid (own_move HRq.out (w1 := wt) (fun k hk => by
            have hkk : G6 = k := by injection hk
            have h1 := HLT.out
            have h2 := Hg6.out
            have h3 := own_lt HRq.out G6 rfl
            rw [← hkk]
            exact ho2.block G6 h3 (by omega) (by omega)))
          clear hfm2 ho2 cw p1 p2 hd
          go_wp2
          go_roundw
          case rel => exact ⟨q + 1, ws2, Hlt2.out, by first | rfl | rw [hnx], ⟨HF2.out⟩, ⟨HR2.out⟩, ⟨HO2.out⟩⟩
          case measure => have h1 := Hlt2.out; first | (rw [hnx]; simp [intOf]; omega) | (simp [intOf]; omega)
        · obtain rfl : q = j := by omega
          have hd := decide_eq_false (show ¬ (q : Int) < (q : Int) by omega)
          have HFe := Lib.hid HFq.out
          rw [List.take_of_length_le (by rw [HNl.out]; exact Nat.le_refl _)] at HFe
          go_wp2
          go_ret
          exact ⟨_, ws', HFe.out, HOq.out, .inl ⟨HCh.out.1 HC.out, rfl, HFl.out HC.out⟩⟩
end Go.Proofs.YtdjjmmndfbffcaaDoor.FM

namespace Go.Proofs.YtdjjmmndfbffcaaDoor.FM
open Go.RowKit Go.Proofs.YtdjjmmndfbffcaaDoorW.PrintWords Go.Proofs.YtdjjmmndfbffcaaDoorW.PrintLast Go.Proofs.YtdjjmmndfbffcaaDoorW.PrintMore
set_option linter.unusedVariables false
set_option linter.unusedSimpArgs false
def Changed (W : World) (g A c n : Nat) (f : Nat → Bool) (so : Bool) (l : List Int) (e : Ending) (w' : World) : Prop :=
  ∃ (f' : Nat → Bool) (ws' : List Nat), FmAt w' g A c n f' ws' ∧ Only g A W w' ∧ ((chB n f so l ∧ e = .returned (.int .i64 0) ∧ f' = flips f l) ∨ (¬ chB n f so l ∧ e = .returned (.int .i64 2) ∧ f' = f))
theorem keep_calls {W : World} {g A c n : Nat} {f : Nat → Bool} {ws : List Nat} (h : FmAt W g A c n f ws) (P : Option Addr) (M cap : Nat) (l : List Int) (hr : ReadsInt W .i64 P M l) (hs : M * 8 ≤ 140737488355328) :
    Calls Tryd.prog 26 #[.pointer (some ⟨g, 0, none⟩), .slice P M cap] W fun e w' => Changed W g A c n f true l e w' := by
  have HC := Lib.hid (change_calls h true P M cap l hr hs)
  clear h hr hs
  go_enter Tryd.func26, Tryd.ntmps26
  go_wp2_with fail
  refine HC.out.mono ?_; rintro e w1 ⟨f', ws', hf, ho, hc⟩
  have HF := Lib.hid hf
  have HO := Lib.hid ho
  rcases hc with ⟨h1, rfl, h2⟩ | ⟨h1, rfl, h2⟩
  · have H1 := Lib.hid h1
    have H2 := Lib.hid h2
    clear h1 h2 hf ho
    go_wp2
    go_ret
    exact ⟨f', ws', HF.out, HO.out, .inl ⟨H1.out, rfl, H2.out⟩⟩
  · have H1 := Lib.hid h1
    have H2 := Lib.hid h2
    clear h1 h2 hf ho
    go_wp2
    go_ret
    exact ⟨f', ws', HF.out, HO.out, .inr ⟨H1.out, rfl, H2.out⟩⟩
theorem give_calls {W : World} {g A c n : Nat} {f : Nat → Bool} {ws : List Nat} (h : FmAt W g A c n f ws) (P : Option Addr) (M cap : Nat) (l : List Int) (hr : ReadsInt W .i64 P M l) (hs : M * 8 ≤ 140737488355328) :
    Calls Tryd.prog 24 #[.pointer (some ⟨g, 0, none⟩), .slice P M cap] W fun e w' => Changed W g A c n f false l e w' := by
  have HC := Lib.hid (change_calls h false P M cap l hr hs)
  clear h hr hs
  go_enter Tryd.func24, Tryd.ntmps24
  go_wp2_with fail
  refine HC.out.mono ?_; rintro e w1 ⟨f', ws', hf, ho, hc⟩
  have HF := Lib.hid hf
  have HO := Lib.hid ho
  rcases hc with ⟨h1, rfl, h2⟩ | ⟨h1, rfl, h2⟩
  · have H1 := Lib.hid h1
    have H2 := Lib.hid h2
    clear h1 h2 hf ho
    go_wp2
    go_ret
    exact ⟨f', ws', HF.out, HO.out, .inl ⟨H1.out, rfl, H2.out⟩⟩
  · have H1 := Lib.hid h1
    have H2 := Lib.hid h2
    clear h1 h2 hf ho
    go_wp2
    go_ret
    exact ⟨f', ws', HF.out, HO.out, .inr ⟨H1.out, rfl, H2.out⟩⟩
end Go.Proofs.YtdjjmmndfbffcaaDoor.FM

namespace Go.Proofs.YtdjjmmndfbffcaaDoor.FM
open Go.RowKit Go.Proofs.YtdjjmmndfbffcaaDoorW.PrintWords Go.Proofs.YtdjjmmndfbffcaaDoorW.PrintLast Go.Proofs.YtdjjmmndfbffcaaDoorW.PrintMore
set_option linter.unusedVariables false
set_option linter.unusedSimpArgs false
theorem cnt_upTo_le (n : Nat) : ∀ m, m ≤ n → cnt (upTo n) m = m := fun m hm => cnt_all _ m fun i hi => decide_eq_true (by omega)
set_option maxHeartbeats 2000000 in
set_option maxRecDepth 100000 in
theorem works22 (W : World) (hT : TZ W) : Calls Tryd.prog 12 #[] W fun e w' => e = .returned (.bool true) ∧ Below W.heap.size W w' := by
  have HT := Lib.hid hT
  have HNw := Lib.hid (new_calls 256 (by decide) W)
  clear hT
  go_enter Tryd.func12, Tryd.ntmps12
  go_wp2_with fail
  refine HNw.out.mono ?_; rintro e w1 ⟨rfl, ⟨c, ws, hfm⟩, hb1⟩
  obtain ⟨g, hg⟩ : ∃ g, W.heap.size + 1 = g := ⟨_, rfl⟩
  obtain ⟨A, hA⟩ : ∃ A, W.heap.size = A := ⟨_, rfl⟩
  have Hg : Hid (A + 1 = g) := Lib.hid (by rw [← hA]; exact hg)
  have HAe := Lib.hid hA
  rw [hg, hA] at hfm
  have HF := Lib.hid hfm
  have HT1 : Hid (TZ w1) := Lib.hid (HT.out.below hb1 HT.out.lt)
  rw [hA] at hb1
  have HB := Lib.hid hb1
  rw [hg]
  have HTk := Lib.hid (take_calls HF.out HT1.out 3 (by rw [cnt_upTo]; decide))
  clear hfm hb1 hg hA
  go_wp2_with fail
  refine HTk.out.mono ?_; rintro e w2 ⟨m, v, ws2, hm, hc, rfl, hf2, hrow, ho⟩
  obtain rfl : m = 3 := by rw [cnt_upTo_le 256 m hm] at hc; exact hc
  have HF2 := Lib.hid hf2
  have HB2 : Hid (Below W.heap.size W w2) := Lib.hid (by rw [HAe.out]; exact Only.below HB.out ho (by have := HB.out.size; have := HAe.out; omega) (by have := Hg.out; omega) (Nat.le_refl _))
  obtain ⟨A6, c6, rfl⟩ := own_slice hrow
  rw [show mem (upTo 256) 3 = [0, 1, 2] from rfl] at hrow
  rw [show (mem (upTo 256) 3).length = 3 from rfl]
  obtain ⟨G6, rfl, _, _⟩ := own_form (n := 3) hrow (by decide)
  obtain ⟨c2, _⟩ := own_at (n := 3) hrow 2 (by decide) (by decide)
  have hr2 : rd [0, 1, 2] 2 = 2 := rfl
  rw [hr2] at c2
  have c2' : w2.cell? ⟨G6, 2, none⟩ = some (.int .i64 2) := c2
  have HFr := Lib.hid (free_calls HF2.out)
  rw [show cnt (cutF (upTo 256) 3) 256 = 253 from by have := cnt_cut (upTo 256) 3 256 (by decide); rw [cnt_upTo, cnt_upTo_le 256 3 (by decide)] at this; omega] at HFr
  clear hf2 ho hr2 hrow c2
  go_wp2_with fail
  refine HFr.out.mono ?_; rintro e w3 ⟨rfl, hb3⟩
  have HF3 := Lib.hid (HF2.out.below hb3 (Nat.le_refl _))
  have HB3 := Lib.hid (below_step HB2.out hb3)
  have HH2 := Lib.hid (has_calls HF3.out 2)
  rw [show hasF (cutF (upTo 256) 3) 2 = false from rfl] at HH2
  clear hb3 c2'
  go_wp2_with fail
  refine HH2.out.mono ?_; rintro e w4 ⟨rfl, hb4⟩
  have HF4 := Lib.hid (HF3.out.below hb4 (Nat.le_refl _))
  have HB4 := Lib.hid (below_step HB3.out hb4)
  have HH3 := Lib.hid (has_calls HF4.out 3)
  rw [show hasF (cutF (upTo 256) 3) 3 = true from rfl] at HH3
  clear hb4
  go_wp2_with fail
  refine HH3.out.mono ?_; rintro e w5 ⟨rfl, hb5⟩
  have HB5 := Lib.hid (below_step HB4.out hb5)
  clear hb5
  go_wp2
  go_ret
  exact ⟨rfl, HB5.out⟩
theorem take_any {W : World} {g A c n : Nat} {f : Nat → Bool} {ws : List Nat} (h : FmAt W g A c n f ws) (hT : TZ W) (k : Int) :
    Calls Tryd.prog 15 #[.pointer (some ⟨g, 0, none⟩), .int .i64 k] W fun e w' =>
      ((k < 0 ∨ (cnt f n : Int) < k) ∧ e = .returned (.tuple #[.slice none 0 0, .bool false]) ∧ FmAt w' g A c n f ws ∧ Only g A W w') ∨
      ∃ (m : Nat) (v : Value) (ws' : List Nat), m ≤ n ∧ (cnt f m : Int) = k ∧ e = .returned (.tuple #[v, .bool true]) ∧ FmAt w' g A c n (cutF f m) ws' ∧ w'.ownsRow W.heap.size 3 1 v (mem f m).length (nums .i64 (mem f m)) ∧ Only g A W w' := by
  by_cases hk : k < 0 ∨ (cnt f n : Int) < k
  · exact (take_no h k hk).mono fun e w' ⟨he, hb⟩ => .inl ⟨hk, he, h.below hb (Nat.le_refl _), Only.of hb (Nat.le_refl _)⟩
  · obtain ⟨q, rfl⟩ : ∃ q : Nat, k = (q : Int) := ⟨k.toNat, by omega⟩
    exact (take_calls h hT q (by omega)).mono fun e w' ⟨m, v, ws', h1, h2, h3⟩ => .inr ⟨m, v, ws', h1, by rw [h2], h3⟩
end Go.Proofs.YtdjjmmndfbffcaaDoor.FM

namespace Go.Proofs.YtdjjmmndfbffcaaDoor.CD
set_option linter.unusedVariables false
set_option linter.unusedSimpArgs false

def Bytes (l : List Int) : Prop := ∀ x ∈ l, 0 ≤ x ∧ x < 256
theorem Bytes.left {l m : List Int} (h : Bytes (l ++ m)) : Bytes l := fun x hx => h x (List.mem_append_left _ hx)
theorem Bytes.right {l m : List Int} (h : Bytes (l ++ m)) : Bytes m := fun x hx => h x (List.mem_append_right _ hx)
theorem Bytes.drop {l : List Int} (h : Bytes l) (n : Nat) : Bytes (l.drop n) := fun x hx => h x (List.mem_of_mem_drop hx)
theorem Bytes.take {l : List Int} (h : Bytes l) (n : Nat) : Bytes (l.take n) := fun x hx => h x (List.mem_of_mem_take hx)

def numF : Nat → Nat → List Int
  | 0, n => [(n : Int)]
  | k + 1, n => if n < 128 then [(n : Int)] else ((n % 128 + 128 : Nat) : Int) :: numF k (n / 128)
def num (n : Nat) : List Int := numF 9 n
def zig (i : Int) : Nat := if 0 ≤ i then (2 * i).toNat else (-2 * i - 1).toNat
end Go.Proofs.YtdjjmmndfbffcaaDoor.CD

namespace Go.Proofs.YtdjjmmndfbffcaaDoor.CK
set_option linter.unusedVariables false
end Go.Proofs.YtdjjmmndfbffcaaDoor.CK

namespace Go.Proofs.YtdjjmmndfbffcaaDoor.CK
end Go.Proofs.YtdjjmmndfbffcaaDoor.CK

namespace Go.Proofs.YtdjjmmndfbffcaaDoor.SP
open Go.Proofs.YtdjjmmndfbffcaaDoor.CD Go.Proofs.YtdjjmmndfbffcaaDoor.CK
set_option linter.unusedVariables false
structure Anc where
  on : Bool
  x : Int
  y : Int
  z : Int
structure Sup where
  sectors : Int
  seed : Nat
  now : Int
  a : Anc
  b : Anc
  placed : Int
  broken : Int
  grown : Int
  burnt : Int
  head : Int
  size : Int
  saves : Int
def nums (l : List Int) : List Int := (l.map fun n => num n.toNat).flatten
def ancB (a : Anc) : List Int := num (if a.on then 1 else 0) ++ (num (zig a.x) ++ (num (zig a.y) ++ num (zig a.z)))
def magic : List Int := [66, 69, 68, 82, 79, 67, 75, 49]
def body (s : Sup) : List Int := magic ++ (num s.sectors.toNat ++ (num s.seed ++ (num s.now.toNat ++ (ancB s.a ++ (ancB s.b ++ nums [s.placed, s.broken, s.grown, s.burnt, s.head, s.size, s.saves])))))
def data (s : Sup) : List Int := body s ++ List.replicate (508 - (body s).length) 0
end Go.Proofs.YtdjjmmndfbffcaaDoor.SP

namespace Go.Proofs.YtdjjmmndfbffcaaDoor.FM
open Go.Proofs.YtdjjmmndfbffcaaDoor.CD Go.Proofs.YtdjjmmndfbffcaaDoor.SP
set_option linter.unusedVariables false
set_option linter.unusedSimpArgs false
def sizeN (n : Nat) : Nat := (n + 3999) / 4000
end Go.Proofs.YtdjjmmndfbffcaaDoor.FM

namespace Go.Proofs.YtdjjmmndfbffcaaDoor.FM
open Go.RowKit Go.Proofs.YtdjjmmndfbffcaaDoorW.PrintWords Go.Proofs.YtdjjmmndfbffcaaDoorW.PrintLast Go.Proofs.YtdjjmmndfbffcaaDoorW.PrintMore
set_option linter.unusedVariables false
set_option linter.unusedSimpArgs false
theorem infoBool : (Tryd.prog.info? 4).map (fun i => (i.zero, i.size, i.bytes)) = some (some (.bool false), 1, 1) := by kernel_rfl
def brow (f : Nat → Bool) (n : Nat) : List Bool := (List.range n).map f
theorem brow_length (f : Nat → Bool) (n : Nat) : (brow f n).length = n := by simp [brow]
theorem brow_at (f : Nat → Bool) (n j : Nat) (hj : j < n) : rdOf false (brow f n) (j : Int) = f j := by
  unfold rdOf brow
  rw [Int.toNat_natCast, List.getD_eq_getElem?_getD, List.getElem?_map, List.getElem?_range hj]
  rfl
def putF (f : Nat → Bool) (i : Nat) (b : Bool) : Nat → Bool := fun j => if j = i then b else f j
theorem brow_set (f : Nat → Bool) (n j : Nat) (b : Bool) : (brow f n).set j b = brow (putF f j b) n := by
  apply List.ext_getElem
  · simp [brow]
  · intro i h1 h2
    simp only [brow, List.length_set, List.length_map, List.length_range] at h1
    rw [List.getElem_set]
    simp only [brow, List.getElem_map, List.getElem_range]
    unfold putF
    by_cases h : j = i
    · subst h; simp
    · rw [if_neg h, if_neg (fun e => h e.symm)]
theorem brow_none (n : Nat) : List.replicate n false = brow (upTo 0) n := by
  unfold brow
  apply List.ext_getElem
  · simp
  · intro i h1 h2
    simp [upTo]
theorem putF_upTo (i : Nat) : putF (upTo i) i true = upTo (i + 1) := setF_upTo i
theorem putF_flip {f : Nat → Bool} {i : Nat} {so : Bool} (h : f i = so) : putF f i (!so) = flip f i := by
  funext j
  unfold putF flip
  by_cases hj : j = i
  · rw [if_pos hj, if_pos hj, hj, h]
  · rw [if_neg hj, if_neg hj]
abbrev OwnB (W : World) (base : Nat) (B c n : Nat) (f : Nat → Bool) : Prop := W.ownsRow base 4 1 (.slice (some ⟨B, 0, none⟩) n c) n (encs Value.bool (brow f n))
theorem OwnB.at_ {W : World} {base B c n : Nat} {f : Nat → Bool} (h : OwnB W base B c n f) (j : Nat) (hj : j < n) : W.cell? ⟨B, j, none⟩ = some (.bool (f j)) ∧ W.frozen? ⟨B, j, none⟩ = false := by
  have := own_at_of (d := false) h (j : Int) (by omega) (by omega)
  rwa [Int.toNat_natCast, brow_at f n j hj] at this
theorem OwnB.store {W : World} {base B c n : Nat} {f : Nat → Bool} (h : OwnB W base B c n f) (j : Nat) (b : Bool) : OwnB (W.setCell ⟨B, j, none⟩ (.bool b)) base B c n (putF f j b) := by
  have := (own_store_of (enc := Value.bool) h (j : Int) b).1
  rw [Int.toNat_natCast, brow_set] at this
  exact this
structure RefAt (W : World) (p B c n : Nat) (f : Nat → Bool) : Prop where
  blk : W.heap[p]? = some (.cells #[.slice (some ⟨B, 0, none⟩) n c] 61 (0, 0))
  row : OwnB W 0 B c n f
  ne : p ≠ B
  out : ∀ i, n ≤ i → f i = false
  nn : 256 ≤ n ∧ n ≤ 131072
theorem RefAt.lt {W : World} {p B c n : Nat} {f : Nat → Bool} (h : RefAt W p B c n f) : p < W.heap.size ∧ B < W.heap.size := ⟨blk_lt h.blk, own_lt h.row B rfl⟩
theorem RefAt.move {W W' : World} {p B c n : Nat} {f : Nat → Bool} (h : RefAt W p B c n f) (hp : W'.heap[p]? = W.heap[p]?) (hB : W'.heap[B]? = W.heap[B]?) : RefAt W' p B c n f :=
  ⟨hp.trans h.blk, own_move h.row (fun k hk => by
    have : B = k := by injection hk
    rw [← this]; exact hB), h.ne, h.out, h.nn⟩
theorem RefAt.below {W W' : World} {p B c n : Nat} {f : Nat → Bool} (h : RefAt W p B c n f) {m : Nat} (hb : Below m W W') (hm : W.heap.size ≤ m) : RefAt W' p B c n f :=
  h.move (hb.block p (by have := h.lt; omega)) (hb.block B (by have := h.lt; omega))
theorem RefAt.only {W W' : World} {p B c n : Nat} {f : Nat → Bool} (h : RefAt W p B c n f) {g' A' : Nat} (o : Only g' A' W W') (h1 : p ≠ g') (h2 : p ≠ A') (h3 : B ≠ g') (h4 : B ≠ A') : RefAt W' p B c n f :=
  h.move (o.block p h.lt.1 h1 h2) (o.block B h.lt.2 h3 h4)
theorem RefAt.drew {W : World} {p B c n : Nat} {f : Nat → Bool} (h : RefAt W p B c n f) : RefAt W.drew p B c n f := ⟨h.blk, h.row, h.ne, h.out, h.nn⟩
theorem RefAt.cell {W : World} {p B c n : Nat} {f : Nat → Bool} (h : RefAt W p B c n f) : W.cell? ⟨p, 0, none⟩ = some (.slice (some ⟨B, 0, none⟩) n c) := blk_cell h.blk 0
theorem rnew_no (n : Int) (h : n < 256 ∨ 131072 < n) (W : World) :
    Calls Tryd.prog 19 #[.int .i64 n] W fun e w' => e = .returned (.tuple #[.pointer none, .int .i64 2]) ∧ Below W.heap.size W w' := by
  by_cases h1 : n < 256
  · have hd := decide_eq_true h1
    go_enter Tryd.func19, Tryd.ntmps19
    go_wp2
    go_ret2
    exact ⟨rfl, Below.refl _ _⟩
  · have hd := decide_eq_false h1
    have hd2 : decide (131072 < n) = true := decide_eq_true (by omega)
    go_enter Tryd.func19, Tryd.ntmps19
    go_wp2
    go_ret2
    exact ⟨rfl, Below.refl _ _⟩
set_option maxHeartbeats 2000000 in
set_option maxRecDepth 100000 in
theorem rnew_calls (n : Nat) (hn : 256 ≤ n ∧ n ≤ 131072) (W : World) :
    Calls Tryd.prog 19 #[.int .i64 (n : Int)] W fun e w' => (∃ p B c, e = .returned (.tuple #[.pointer (some ⟨p, 0, none⟩), .int .i64 0]) ∧ RefAt w' p B c n (upTo n) ∧ W.heap.size ≤ p ∧ W.heap.size ≤ B) ∧ Below W.heap.size W w' := by
  have HN := Lib.hid hn
  have d1 : decide ((n : Int) < 256) = false := decide_eq_false (by omega)
  have d2 : decide (131072 < (n : Int)) = false := decide_eq_false (by omega)
  have d1n : decide (n < 256) = false := decide_eq_false (by omega)
  have d2n : decide (131072 < n) = false := decide_eq_false (by omega)
  have hmk : ∀ W : World, (Instr.makeSlice 59 (.int .i64 (n : Int)) (.int .i64 (n : Int))).run Tryd.prog W = .ok (.slice (some ⟨W.heap.size, 0, none⟩) n n) (W.alloc (.cells (madeCells #[.bool false] n) 4)) :=
    print_make_of (P := Tryd.prog) 59 4 (.bool false) 1 Tryd.underlying59 infoBool rfl (by decide) n (by omega)
  have HM : Hid (OwnB (W.alloc (.cells (madeCells #[.bool false] n) 4)) W.heap.size W.heap.size n n (upTo 0)) := Lib.hid (by
    have h := own_made_of (enc := Value.bool) (d := false) W W.heap.size 4 n (Nat.le_refl _) (by omega)
    rw [brow_none] at h
    exact h)
  have HB := Lib.hid (below_alloc (Below.refl W.heap.size W) (.cells (madeCells #[.bool false] n) 4))
  have HS : Hid ((W.alloc (.cells (madeCells #[.bool false] n) 4)).heap.size = W.heap.size + 1) := Lib.hid (by simp)
  clear hn
  go_enter Tryd.func19, Tryd.ntmps19
  go_upto_region 4 with fail
  obtain ⟨W2, hW2⟩ : ∃ V, W.alloc (.cells (madeCells #[.bool false] n) 4) = V := ⟨_, rfl⟩
  rw [hW2] at HM HB HS
  rw [hW2]
  obtain ⟨B, hB⟩ : ∃ B, W.heap.size = B := ⟨_, rfl⟩
  have HBe := Lib.hid hB
  rw [hB] at HM HB HS
  rw [hB]
  clear hW2 hB hmk
  go_wp2_with fail
  go_loopw [5] (fun iv V => ∃ (i : Nat), i ≤ n ∧ iv = .int .i64 (i : Int) ∧ Aside0 (OwnB V B B n n (upTo i)) ∧ Aside0 (Below B W V) ∧ Aside0 (B + 1 ≤ V.heap.size)) (fun iv _ => n - (intOf iv).toNat)
  case atStart => exact ⟨0, Nat.zero_le _, rfl, ⟨HM.out⟩, ⟨HB.out⟩, ⟨by have := HS.out; omega⟩⟩
  case round =>
    obtain ⟨i, hi, rfl, ⟨hrow⟩, ⟨hb⟩, ⟨hs⟩⟩ := hrel
    have HR := Lib.hid hrow
    have HBi := Lib.hid hb
    have HSi := Lib.hid hs
    clear hrow hb hs HM HB HS
    by_cases hlt : i < n
    · have hd := decide_eq_true (show (i : Int) < (n : Int) by omega)
      have hdn := decide_eq_true hlt
      obtain ⟨cw, fw⟩ := OwnB.at_ HR.out i hlt
      have p1 : (0 ≤ (i : Int)) = True := eq_true (by omega)
      have p2 : ((i : Int) < (n : Int)) = True := eq_true (by omega)
      have hnx : wrap64 ((i : Int) + 1) = (i : Int) + 1 := by have := HN.out; clear hd p1 p2; unfold wrap64; omega
      have HR2 := Lib.hid (OwnB.store HR.out i true)
      rw [putF_upTo] at HR2
      have HB2 : Hid (Below B W (wr.setCell ⟨B, i, none⟩ (.bool true))) := Lib.hid (HBi.out.setCell (p := ⟨B, i, none⟩) (Nat.le_refl _) _)
      have HS2 : Hid (B + 1 ≤ (wr.setCell ⟨B, i, none⟩ (.bool true)).heap.size) := Lib.hid (by have := HSi.out; simpa [World.setCell] using this)
      have Hlt := Lib.hid hlt
      clear hlt hi
      go_wp2
      go_roundw
      case rel => exact ⟨i + 1, Hlt.out, by first | rfl | (rw [hnx]; rfl), ⟨by first | exact HR2.out | exact own_drew HR2.out⟩, ⟨by first | exact HB2.out | exact below_drew HB2.out⟩, ⟨HS2.out⟩⟩
      case measure => have h1 := Hlt.out; first | (rw [hnx]; simp [intOf]; omega) | (simp [intOf]; omega)
    · obtain rfl : i = n := by omega
      have hd := decide_eq_false (show ¬ (i : Int) < (i : Int) by omega)
      go_wp2
      go_ret2
      refine ⟨⟨wr.heap.size, B, i, rfl, ⟨blk_new wr _, own_alloc (own_weaken HR.out (Nat.zero_le _)) _, by have := HSi.out; omega, fun j hj => decide_eq_false (by omega), HN.out⟩, HBi.out.size, by rw [HBe.out]; exact Nat.le_refl _⟩, ?_⟩
      have h := HBi.out.alloc (show B ≤ wr.heap.size by have := HSi.out; omega) (.cells #[.slice (some ⟨B, 0, none⟩) i i] 61)
      rw [HBe.out]
      exact h
set_option maxRecDepth 100000 in
theorem rsize_calls (n : Nat) (hn : 256 ≤ n ∧ n ≤ 131072) (W : World) : Calls Tryd.prog 21 #[.int .i64 (n : Int)] W fun e w' => e = .returned (.int .i64 (sizeN n : Int)) ∧ Below W.heap.size W w' := by
  have d1 := decide_eq_false (show ¬ (n : Int) < 256 by omega)
  have d2 := decide_eq_false (show ¬ 131072 < (n : Int) by omega)
  have d1n := decide_eq_false (show ¬ n < 256 by omega)
  have d2n := decide_eq_false (show ¬ 131072 < n by omega)
  have h1 : wrap64 (Int.tdiv (n : Int) 4000) = ((n / 4000 : Nat) : Int) := by rw [Int.tdiv_eq_ediv_of_nonneg (by omega)]; unfold wrap64; omega
  have h1' : wrap64 ((n : Int) / 4000) = ((n / 4000 : Nat) : Int) := by unfold wrap64; omega
  have h2 : Int.tmod (n : Int) 4000 = ((n % 4000 : Nat) : Int) := by rw [Int.tmod_eq_emod_of_nonneg (by omega)]; omega
  have h2' : (n : Int) % 4000 = ((n % 4000 : Nat) : Int) := by omega
  by_cases h0 : n % 4000 = 0
  · have hs : sizeN n = n / 4000 := by unfold sizeN; omega
    rw [h0] at h2 h2'
    rw [hs]
    obtain ⟨q, hq⟩ : ∃ q, n / 4000 = q := ⟨_, rfl⟩
    rw [hq] at h1 h1'
    rw [hq]
    have H1 := Lib.hid h1'
    clear hn h0 hs hq h1
    go_enter Tryd.func21, Tryd.ntmps21
    go_wp2
    go_ret
    refine ⟨?_, Below.refl _ _⟩
    show Ending.returned (Value.int .i64 (wrap64 ((n : Int) / 4000))) = _
    rw [H1.out]
  · have hs : sizeN n = n / 4000 + 1 := by unfold sizeN; omega
    have h3 : wrap64 (((n / 4000 : Nat) : Int) + 1) = ((n / 4000 + 1 : Nat) : Int) := by unfold wrap64; omega
    have d3 := decide_eq_true (show 0 < ((n % 4000 : Nat) : Int) by omega)
    have d3n := decide_eq_true (show 0 < n % 4000 by omega)
    rw [hs]
    obtain ⟨q, hq⟩ : ∃ q, n / 4000 = q := ⟨_, rfl⟩
    obtain ⟨r, hr⟩ : ∃ r, n % 4000 = r := ⟨_, rfl⟩
    rw [hq] at h1 h1' h3
    rw [hr] at h2 h2' d3 d3n
    rw [hq]
    have H3 := Lib.hid h3
    clear hn h0 hs hq hr h1
    go_enter Tryd.func21, Tryd.ntmps21
    go_wp2
    go_ret
    refine ⟨?_, Below.refl _ _⟩
    show Ending.returned (Value.int .i64 (wrap64 ((q : Int) + 1))) = _
    rw [H3.out]
set_option maxHeartbeats 1000000 in
set_option maxRecDepth 100000 in
theorem rhas_calls {W : World} {p B c n : Nat} {f : Nat → Bool} (h : RefAt W p B c n f) (i : Int) :
    Calls Tryd.prog 29 #[.pointer (some ⟨p, 0, none⟩), .int .i64 i] W fun e w' => e = .returned (.bool (hasF f i)) ∧ Below W.heap.size W w' := by
  have HF := Lib.hid h
  have c0 := h.cell
  clear h
  by_cases h0 : 0 ≤ i
  · obtain ⟨k, rfl⟩ : ∃ k : Nat, i = (k : Int) := ⟨i.toNat, by omega⟩
    by_cases h1 : k < n
    · have hd := decide_eq_true (show (k : Int) < (n : Int) by omega)
      have hd2 : decide (k < n) = true := decide_eq_true h1
      obtain ⟨cw, fw⟩ := OwnB.at_ HF.out.row k h1
      have p1 : (0 ≤ (k : Int)) = True := eq_true (by omega)
      have p2 : ((k : Int) < (n : Int)) = True := eq_true (by omega)
      have hr : hasF f (k : Int) = f k := by unfold hasF; rw [Int.toNat_natCast, decide_eq_true h0, Bool.true_and]
      rw [hr]
      clear h0 h1 hr
      go_enter Tryd.func29, Tryd.ntmps29
      go_wp2
      go_ret
      exact ⟨rfl, Below.refl _ _⟩
    · have hr : hasF f (k : Int) = false := by unfold hasF; rw [Int.toNat_natCast, HF.out.out k (by omega), Bool.and_false]
      have hd := decide_eq_false (show ¬ (k : Int) < (n : Int) by omega)
      have hd2 : decide (k < n) = false := decide_eq_false h1
      rw [hr]
      clear h0 h1 hr
      go_enter Tryd.func29, Tryd.ntmps29
      go_wp2
      go_ret
      exact ⟨rfl, Below.refl _ _⟩
  · have hr : hasF f i = false := by unfold hasF; rw [decide_eq_false h0, Bool.false_and]
    have hd : decide (0 ≤ i) = false := decide_eq_false h0
    rw [hr]
    clear h0 hr
    go_enter Tryd.func29, Tryd.ntmps29
    go_wp2
    go_ret
    exact ⟨rfl, Below.refl _ _⟩
set_option maxHeartbeats 1000000 in
set_option maxRecDepth 100000 in
theorem rfree_calls {W : World} {p B c n : Nat} {f : Nat → Bool} (h : RefAt W p B c n f) :
    Calls Tryd.prog 28 #[.pointer (some ⟨p, 0, none⟩)] W fun e w' => e = .returned (.int .i64 (cnt f n : Int)) ∧ Below W.heap.size W w' := by
  have HF := Lib.hid h
  clear h
  go_enter Tryd.func28, Tryd.ntmps28
  go_wp2_with fail
  go_loopw [4, 3] (fun iv nv V => ∃ (i : Nat), i ≤ n ∧ iv = .int .i64 (i : Int) ∧ nv = .int .i64 (cnt f i : Int) ∧ Aside0 (RefAt V p B c n f) ∧ Aside0 (Below W.heap.size W V)) (fun iv _ _ => n - (intOf iv).toNat)
  case atStart => exact ⟨0, Nat.zero_le _, rfl, rfl, ⟨HF.out⟩, ⟨Below.refl _ _⟩⟩
  case round =>
    obtain ⟨i, hi, rfl, rfl, ⟨hf⟩, ⟨hb⟩⟩ := hrel
    have HFi := Lib.hid hf
    have HB := Lib.hid hb
    clear hf hb
    have c0 := HFi.out.cell
    by_cases hlt : i < n
    · have hd := decide_eq_true (show (i : Int) < (n : Int) by omega)
      have hdn := decide_eq_true hlt
      obtain ⟨cw, fw⟩ := OwnB.at_ HFi.out.row i hlt
      have p1 : (0 ≤ (i : Int)) = True := eq_true (by omega)
      have p2 : ((i : Int) < (n : Int)) = True := eq_true (by omega)
      have hN := HFi.out.nn
      have hnx : wrap64 ((i : Int) + 1) = (i : Int) + 1 := by clear hd p1 p2; unfold wrap64; omega
      have Hlt := Lib.hid hlt
      have hc := cnt_le f i
      obtain ⟨q, hq⟩ : ∃ q, cnt f i = q := ⟨_, rfl⟩
      rw [hq] at hc
      have hnc : wrap64 ((q : Int) + 1) = (q : Int) + 1 := by clear hd p1 p2; unfold wrap64; omega
      rw [hq]
      cases hfi : f i with
      | true =>
        rw [hfi] at cw
        have HC : Hid (cnt f (i + 1) = q + 1) := Lib.hid (by show cnt f i + (if f i then 1 else 0) = _; rw [hq, hfi]; rfl)
        clear hlt hi hN hc hq hfi
        go_wp2
        go_roundw
        case rel => exact ⟨i + 1, Hlt.out, by first | rfl | (rw [hnx]; rfl), by rw [HC.out]; first | rfl | (rw [hnc]; rfl), ⟨by first | exact HFi.out | exact HFi.out.drew⟩, ⟨by first | exact HB.out | exact below_drew HB.out⟩⟩
        case measure => have h1 := Hlt.out; first | (rw [hnx]; simp [intOf]; omega) | (simp [intOf]; omega)
      | false =>
        rw [hfi] at cw
        have HC : Hid (cnt f (i + 1) = q) := Lib.hid (by show cnt f i + (if f i then 1 else 0) = _; rw [hq, hfi]; rfl)
        clear hlt hi hN hc hq hfi
        go_wp2
        go_roundw
        case rel => exact ⟨i + 1, Hlt.out, by first | rfl | (rw [hnx]; rfl), by rw [HC.out], ⟨by first | exact HFi.out | exact HFi.out.drew⟩, ⟨by first | exact HB.out | exact below_drew HB.out⟩⟩
        case measure => have h1 := Hlt.out; first | (rw [hnx]; simp [intOf]; omega) | (simp [intOf]; omega)
    · obtain rfl : i = n := by omega
      have hd := decide_eq_false (show ¬ (i : Int) < (i : Int) by omega)
      go_wp2
      go_ret
      exact ⟨rfl, HB.out⟩
end Go.Proofs.YtdjjmmndfbffcaaDoor.FM

namespace Go.Proofs.YtdjjmmndfbffcaaDoor.FM
open Go.RowKit Go.Proofs.YtdjjmmndfbffcaaDoorW.PrintWords Go.Proofs.YtdjjmmndfbffcaaDoorW.PrintLast Go.Proofs.YtdjjmmndfbffcaaDoorW.PrintMore
set_option linter.unusedVariables false
set_option linter.unusedSimpArgs false
theorem cut_same {f : Nat → Bool} {m m' : Nat} (h : cnt f m = cnt f m') : mem f m = mem f m' ∧ cutF f m = cutF f m' := by
  have key : ∀ m m', m ≤ m' → cnt f m = cnt f m' → mem f m = mem f m' ∧ cutF f m = cutF f m' := fun m m' hle h => by
    obtain ⟨r, hr⟩ := mem_more f m m' hle
    have h1 : (mem f m').length = (mem f m).length := by rw [mem_length, mem_length, h]
    rw [hr, List.length_append] at h1
    have h2 : r = [] := List.eq_nil_of_length_eq_zero (by omega)
    rw [h2, List.append_nil] at hr
    refine ⟨hr.symm, funext fun j => ?_⟩
    unfold cutF
    by_cases a : j < m
    · rw [if_pos a, if_pos (show j < m' by omega)]
    · rw [if_neg a]
      by_cases b : j < m'
      · rw [if_pos b]
        cases hf : f j with
        | false => rfl
        | true =>
          have : (j : Int) ∈ mem f m' := (mem_iff f m' _).2 ⟨j, b, rfl, hf⟩
          rw [hr] at this
          obtain ⟨q, hq, e, _⟩ := (mem_iff f m _).1 this
          omega
      · rw [if_neg b]
  by_cases hle : m ≤ m'
  · exact key m m' hle h
  · obtain ⟨h1, h2⟩ := key m' m (by omega) h.symm
    exact ⟨h1.symm, h2.symm⟩
theorem cut_zero (f : Nat → Bool) : cutF f 0 = f := by funext j; simp [cutF]
theorem cut_next (f : Nat → Bool) (i : Nat) (h : f i = true) : putF (cutF f i) i false = cutF f (i + 1) := by
  funext j
  unfold putF cutF
  by_cases e : j = i
  · rw [if_pos e, if_pos (show j < i + 1 by omega)]
  · rw [if_neg e]
    by_cases a : j < i
    · rw [if_pos a, if_pos (show j < i + 1 by omega)]
    · rw [if_neg a, if_neg (show ¬ j < i + 1 by omega)]
theorem cut_skip (f : Nat → Bool) (i : Nat) (h : f i = false) : cutF f i = cutF f (i + 1) := by
  funext j
  unfold cutF
  by_cases a : j < i
  · rw [if_pos a, if_pos (show j < i + 1 by omega)]
  · rw [if_neg a]
    by_cases e : j = i
    · rw [if_pos (show j < i + 1 by omega), e, h]
    · rw [if_neg (show ¬ j < i + 1 by omega)]
theorem rtake_no {W : World} {p B c n : Nat} {f : Nat → Bool} (h : RefAt W p B c n f) (k : Int) (hk : k < 0 ∨ (cnt f n : Int) < k) :
    Calls Tryd.prog 22 #[.pointer (some ⟨p, 0, none⟩), .int .i64 k] W fun e w' => e = .returned (.tuple #[.slice none 0 0, .bool false]) ∧ Below W.heap.size W w' := by
  have HFr := Lib.hid (rfree_calls h)
  obtain ⟨m, hm⟩ : ∃ m : Int, (cnt f n : Int) = m := ⟨_, rfl⟩
  rw [hm] at hk HFr
  clear h hm
  by_cases h0 : k < 0
  · have hd := decide_eq_true h0
    clear hk
    go_enter Tryd.func22, Tryd.ntmps22
    go_wp2
    go_ret2
    exact ⟨rfl, Below.refl _ _⟩
  · have hd := decide_eq_false h0
    have hd2 := decide_eq_true (show m < k by omega)
    clear hk
    go_enter Tryd.func22, Tryd.ntmps22
    go_wp2_with fail
    refine HFr.out.mono ?_; rintro e w1 ⟨rfl, hb1⟩
    have HB := Lib.hid hb1
    clear hb1
    go_wp2
    go_ret2
    exact ⟨rfl, HB.out⟩
theorem Only.then_below {g A : Nat} {a b c : World} (h : Only g A a b) (k : Below a.heap.size b c) : Only g A a c :=
  ⟨k.os.trans h.os, k.tape.trans h.tape, k.output.trans h.output, Nat.le_trans h.size k.size, fun i hi h1 h2 => (k.block i hi).trans (h.block i hi h1 h2)⟩
structure RTS (w W : World) (p B c n : Nat) (f : Nat → Bool) (i : Nat) (v : Value) (l : List Int) : Prop where
  fm : RefAt W p B c n (cutF f i)
  row : W.ownsRow w.heap.size 3 1 v l.length (nums .i64 l)
  only : Only p B w W
set_option maxHeartbeats 4000000 in
set_option maxRecDepth 100000 in
theorem rtake_calls {W : World} {p B c n : Nat} {f : Nat → Bool} (h : RefAt W p B c n f) (k : Nat) (hk : k ≤ cnt f n) :
    Calls Tryd.prog 22 #[.pointer (some ⟨p, 0, none⟩), .int .i64 (k : Int)] W fun e w' => ∃ (m : Nat) (v : Value), m ≤ n ∧ cnt f m = k ∧ e = .returned (.tuple #[v, .bool true]) ∧ RefAt w' p B c n (cutF f m) ∧ w'.ownsRow W.heap.size 3 1 v (mem f m).length (nums .i64 (mem f m)) ∧ Only p B W w' := by
  have HF := Lib.hid h
  have HLT := Lib.hid h.lt
  have HNN := Lib.hid h.nn
  have HK := Lib.hid hk
  have HFr := Lib.hid (rfree_calls h)
  obtain ⟨m, hm⟩ : ∃ m : Int, (cnt f n : Int) = m := ⟨_, rfl⟩
  rw [hm] at HFr
  have hd := decide_eq_false (show ¬ (k : Int) < 0 by omega)
  have hd2 := decide_eq_false (show ¬ m < (k : Int) by omega)
  clear h hm hk
  go_enter Tryd.func22, Tryd.ntmps22
  go_wp2_with fail
  refine HFr.out.mono ?_; rintro e w1 ⟨rfl, hb1⟩
  have HT0 : Hid (RTS W w1 p B c n f 0 (.slice none 0 0) (mem f 0)) := Lib.hid ⟨by rw [cut_zero]; exact HF.out.below hb1 (Nat.le_refl _), own_nil _ _ _ _, Only.of hb1 (Nat.le_refl _)⟩
  clear hb1 HFr
  go_wp2_with fail
  clear hd hd2
  go_loopw [7, 6] (fun iv lv V => ∃ i : Nat, i ≤ n ∧ iv = .int .i64 (i : Int) ∧ Aside0 (RTS W V p B c n f i lv (mem f i)) ∧ Aside0 (cnt f i ≤ k)) (fun iv lv _ => n - (intOf iv).toNat)
  case atStart => exact ⟨0, Nat.zero_le _, rfl, ⟨HT0.out⟩, ⟨Nat.zero_le _⟩⟩
  case round =>
    obtain ⟨i, hi, rfl, ⟨hts⟩, ⟨hcnt⟩⟩ := hrel
    have HT := Lib.hid hts
    have HC := Lib.hid hcnt
    clear hts hcnt HT0
    have c0 := HT.out.fm.cell
    obtain ⟨A6, c6, rfl, hr6⟩ := own_reads HT.out.row
    clear hr6
    obtain ⟨L, hL⟩ : ∃ L, (mem f i).length = L := ⟨_, rfl⟩
    have HL : Hid (L = cnt f i) := Lib.hid (by rw [← hL, mem_length])
    have HRow := Lib.hid HT.out.row
    rw [hL] at HRow
    rw [hL]
    clear hL
    by_cases hlt : i < n
    · have hd := decide_eq_true (show (i : Int) < (n : Int) by omega)
      have hdn := decide_eq_true hlt
      by_cases hLk : L < k
      · have hd2 := decide_eq_true (show (L : Int) < (k : Int) by omega)
        have hd2n := decide_eq_true hLk
        obtain ⟨cw, fw⟩ := OwnB.at_ HT.out.fm.row i hlt
        rw [show cutF f i i = f i from if_neg (by omega)] at cw
        have p1 : (0 ≤ (i : Int)) = True := eq_true (by omega)
        have p2 : ((i : Int) < (n : Int)) = True := eq_true (by omega)
        have hnx : wrap64 ((i : Int) + 1) = (i : Int) + 1 := by have := HNN.out; clear hd p1 p2 hd2; unfold wrap64; omega
        have Hlt := Lib.hid hlt
        have HLk := Lib.hid hLk
        cases hfi : f i with
        | true =>
          rw [hfi] at cw
          have Hfi := Lib.hid hfi
          have HF2 : Hid (RefAt (wr.setCell ⟨B, i, none⟩ (.bool false)) p B c n (cutF f (i + 1))) := Lib.hid (by
            have h1 := HT.out.fm
            refine ⟨(Below.heap_setCell wr _ _ p h1.ne).trans h1.blk, ?_, h1.ne, fun j hj => ?_, h1.nn⟩
            · have := OwnB.store h1.row i false
              rw [cut_next f i hfi] at this
              exact this
            · have := h1.out j hj
              have h2 := hlt
              unfold cutF at this ⊢
              rw [if_neg (by omega)] at this ⊢
              exact this)
          have HO2 : Hid (Only p B W (wr.setCell ⟨B, i, none⟩ (.bool false))) := Lib.hid (HT.out.only.trans (Only.grown (gset (World.grownBy.refl wr (some B)) i _) (.inr (.inl rfl))))
          have HR2 : Hid ((wr.setCell ⟨B, i, none⟩ (.bool false)).ownsRow W.heap.size 3 1 (.slice A6 L c6) L (nums .i64 (mem f i))) := Lib.hid (own_move HRow.out (fun kk hkk => Below.heap_setCell wr _ _ kk (by have := own_base HRow.out kk hkk; have := HLT.out; intro e; simp at e; omega)))
          have HMe : Hid (mem f (i + 1) = mem f i ++ [(i : Int)] ∧ cnt f (i + 1) = L + 1 ∧ (mem f i).length = L) := Lib.hid ⟨by show mem f i ++ (if f i then [(i : Int)] else []) = _; rw [hfi]; rfl, by show cnt f i + (if f i then 1 else 0) = _; rw [hfi, HL.out]; rfl, by rw [mem_length, HL.out]⟩
          obtain ⟨W3, hW3⟩ : ∃ V, wr.setCell ⟨B, i, none⟩ (.bool false) = V := ⟨_, rfl⟩
          obtain ⟨l, hl⟩ : ∃ l, mem f i = l := ⟨_, rfl⟩
          have Hw3 := Lib.hid hW3
          rw [hW3] at HF2 HO2 HR2
          rw [hl] at HMe HR2
          have HLl : Hid (l.length = L) := Lib.hid HMe.out.2.2
          have HRl : Hid (W3.ownsRow W.heap.size 3 1 (.slice A6 L c6) l.length (nums .i64 l)) := Lib.hid (by rw [HLl.out]; exact HR2.out)
          clear hlt hi hLk hfi hl HRow
          go_upto_region 9 with fail
          try rw [hW3]
          clear hW3 c0 cw fw
          go_wp2_with (at_builtin; (refine print_append_row (w0 := W3) W.heap.size rfl (.tmp 44) (.tmp 46) 22 3 .i64 8 rfl Tryd.underlying22 infoInt (by decide) _ l [(i : Int)] (some ⟨W3.heap.size, 0, none⟩) 1 1 rfl rfl (own_alloc HRl.out _) (litI W3 (i : Int)) ((Below.refl W.heap.size W3).alloc HO2.out.size _) (by have := HO2.out.size; simp; omega) (by have := HLl.out; have := HLk.out; have := HK.out; have := cnt_le f n; have := HNN.out; omega) ?_; intro uo Wo hoo hbo hgo _; have HF3 := Lib.hid (HF2.out.move (hbo.block p HLT.out.1) (hbo.block B HLT.out.2)); have HO3 := Lib.hid (HO2.out.then_below hbo); have HR3 := Lib.hid hoo; clear hoo hbo hgo))
          have HT3 : Hid (RTS W Wo p B c n f (i + 1) uo (mem f (i + 1))) := Lib.hid (by rw [HMe.out.1]; exact ⟨HF3.out, HR3.out, HO3.out⟩)
          go_roundw
          case rel => exact ⟨i + 1, Hlt.out, by first | rfl | (rw [hnx]; rfl), ⟨HT3.out⟩, ⟨by rw [HMe.out.2.1]; have := HLk.out; omega⟩⟩
          case measure => have h1 := Hlt.out; first | (rw [hnx]; simp [intOf]; omega) | (simp [intOf]; omega)
        | false =>
          rw [hfi] at cw
          have HT2 : Hid (RTS W wr p B c n f (i + 1) (.slice A6 L c6) (mem f (i + 1))) := Lib.hid (by
            have h1 : mem f (i + 1) = mem f i := by show mem f i ++ (if f i then [(i : Int)] else []) = _; rw [hfi]; simp
            rw [h1]
            exact ⟨by rw [← cut_skip f i hfi]; exact HT.out.fm, by rw [mem_length, ← HL.out]; exact HRow.out, HT.out.only⟩)
          have HC2 : Hid (cnt f (i + 1) ≤ k) := Lib.hid (by show cnt f i + (if f i then 1 else 0) ≤ k; rw [hfi]; exact HC.out)
          clear hlt hi hLk hfi
          go_wp2
          go_roundw
          case rel => exact ⟨i + 1, Hlt.out, by first | rfl | (rw [hnx]; rfl), ⟨by first | exact HT2.out | exact ⟨HT2.out.fm.drew, own_drew HT2.out.row, HT2.out.only.drew⟩⟩, ⟨HC2.out⟩⟩
          case measure => have h1 := Hlt.out; first | (rw [hnx]; simp [intOf]; omega) | (simp [intOf]; omega)
      · have hd2 := decide_eq_false (show ¬ (L : Int) < (k : Int) by omega)
        have hd2n := decide_eq_false hLk
        have HLk : Hid (cnt f i = k) := Lib.hid (by have := HC.out; have := HL.out; omega)
        have Hi := Lib.hid hi
        clear hlt hi hLk
        go_wp2
        go_ret2
        exact ⟨i, _, Hi.out, HLk.out, rfl, HT.out.fm, by rw [mem_length, ← HL.out]; exact HRow.out, HT.out.only⟩
    · obtain rfl : i = n := by omega
      have hd := decide_eq_false (show ¬ (i : Int) < (i : Int) by omega)
      have HLk : Hid (cnt f i = k) := Lib.hid (by have := HC.out; have := HK.out; omega)
      clear hlt hi
      go_wp2
      go_ret2
      exact ⟨i, _, Nat.le_refl _, HLk.out, rfl, HT.out.fm, by rw [mem_length, ← HL.out]; exact HRow.out, HT.out.only⟩
end Go.Proofs.YtdjjmmndfbffcaaDoor.FM

namespace Go.Proofs.YtdjjmmndfbffcaaDoor.FM
open Go.RowKit Go.Proofs.YtdjjmmndfbffcaaDoorW.PrintWords Go.Proofs.YtdjjmmndfbffcaaDoorW.PrintLast Go.Proofs.YtdjjmmndfbffcaaDoorW.PrintMore
set_option linter.unusedVariables false
set_option linter.unusedSimpArgs false
theorem chB_nil (n : Nat) (f : Nat → Bool) (so : Bool) : chB n f so [] := ⟨fun x hx => by simp at hx, List.nodup_nil⟩
theorem chB_unlike {n : Nat} {f : Nat → Bool} {so : Bool} {l : List Int} (h : chB n f so l) : Unlike l := ⟨h.2, fun x hx => (h.1 x hx).1⟩
theorem chB_pre {n : Nat} {f : Nat → Bool} {so : Bool} {l m : List Int} (h : chB n f so (l ++ m)) : chB n f so l := ⟨fun x hx => h.1 x (List.mem_append_left _ hx), (List.nodup_append.1 h.2).1⟩
theorem chB_snoc {n : Nat} {f : Nat → Bool} {so : Bool} {l : List Int} {x : Int} (h : chB n f so l) : chB n f so (l ++ [x]) ↔ 0 ≤ x ∧ x < (n : Int) ∧ flips f l x.toNat = so := by
  have hu := chB_unlike h
  constructor
  · intro h2
    obtain ⟨a, b, c⟩ := h2.1 x (by simp)
    refine ⟨a, b, ?_⟩
    have hn : x ∉ l := fun hm => (List.nodup_append.1 h2.2).2.2 x hm x (by simp) rfl
    rw [flips_at l f _ hu, show ((x.toNat : Nat) : Int) = x by omega, if_neg hn]
    exact c
  · rintro ⟨a, b, c⟩
    rw [flips_at l f _ hu, show ((x.toNat : Nat) : Int) = x by omega] at c
    have hn : x ∉ l := fun hm => by
      rw [if_pos hm, (h.1 x hm).2.2] at c
      cases so <;> cases c
    rw [if_neg hn] at c
    refine ⟨fun y hy => ?_, ?_⟩
    · rcases List.mem_append.1 hy with hy | hy
      · exact h.1 y hy
      · rw [show y = x by simpa using hy]
        exact ⟨a, b, c⟩
    · rw [List.nodup_append]
      refine ⟨h.2, by simp, fun y hy z hz => ?_⟩
      rw [show z = x by simpa using hz]
      intro e
      rw [e] at hy
      exact hn hy
theorem chB_more {n : Nat} {f : Nat → Bool} {so : Bool} {l : List Int} {i : Nat} {x : Int} (hi : i < l.length) (hx : l.getD i 0 = x) (h : chB n f so (l.take i)) (hno : ¬ (0 ≤ x ∧ x < (n : Int) ∧ flips f (l.take i) x.toNat = so)) : ¬ chB n f so l := fun hl => by
  have e : l.take i ++ [x] ++ l.drop (i + 1) = l := by
    have h1 : l.take (i + 1) = l.take i ++ [x] := by
      rw [List.take_add_one, List.getElem?_eq_getElem hi]
      rw [List.getD_eq_getElem?_getD, List.getElem?_eq_getElem hi] at hx
      simp at hx
      simp [hx]
    rw [← h1, List.take_append_drop]
  rw [← e] at hl
  exact hno ((chB_snoc h).1 (chB_pre hl))
def RChanged (W : World) (p B n : Nat) (f : Nat → Bool) (so : Bool) (l : List Int) (e : Ending) (w' : World) : Prop :=
  ∃ (f' : Nat → Bool) (B' c' : Nat), RefAt w' p B' c' n f' ∧ (B' = B ∨ W.heap.size ≤ B') ∧ Only p B W w' ∧ ((chB n f so l ∧ e = .returned (.int .i64 0) ∧ f' = flips f l) ∨ (¬ chB n f so l ∧ e = .returned (.int .i64 2) ∧ f' = f))
set_option maxHeartbeats 4000000 in
set_option maxRecDepth 100000 in
theorem rchange_calls {W : World} {p B c n : Nat} {f : Nat → Bool} (h : RefAt W p B c n f) (so : Bool) (P : Option Addr) (M cap : Nat) (l : List Int) (hr : ReadsInt W .i64 P M l) (hs : M * 8 ≤ 140737488355328) :
    Calls Tryd.prog 41 #[.pointer (some ⟨p, 0, none⟩), .slice P M cap, .bool so] W fun e w' => RChanged W p B n f so l e w' := by
  have HF := Lib.hid h
  have HR := Lib.hid hr
  have HS := Lib.hid hs
  have HLT := Lib.hid h.lt
  have HNN := Lib.hid h.nn
  have c0 := h.cell
  have HRow := Lib.hid (own_reads_of' (d := false) h.row)
  clear h hr hs
  go_enter Tryd.func41, Tryd.ntmps41
  go_wp2_with (at_builtin; (refine print_append_row_of Value.bool false (w0 := W) W.heap.size rfl (.tmp 10) (.tmp 14) 59 4 (.bool false) 1 rfl Tryd.underlying59 infoBool rfl (by decide) (fun _ => rfl) (.slice none 0 0) [] (brow f n) (some ⟨B, 0, none⟩) n c rfl rfl (own_nil _ _ _ _) HRow.out (Below.refl _ _) (Nat.le_refl _) (by have := HNN.out; simp; omega) ?_; intro uo Wo hoo hbo hgo _; have HO := Lib.hid hoo; have HB := Lib.hid hbo; clear hoo hbo hgo))
  rw [List.nil_append, brow_length] at HO
  obtain ⟨Ax, cx, rfl⟩ := own_slice HO.out
  obtain ⟨B', rfl, hB', _⟩ := own_form HO.out (by have := HNN.out; omega)
  have HB' := Lib.hid hB'
  have HL : Hid (l.length = M) := Lib.hid HR.out.1
  clear hB' HRow
  clear c0
  go_loopw [8] (fun iv V => ∃ i : Nat, i ≤ M ∧ iv = .int .i64 (i : Int) ∧ Aside0 (OwnB V W.heap.size B' cx n (flips f (l.take i))) ∧ Aside0 (chB n f so (l.take i)) ∧ Aside0 (Below W.heap.size W V)) (fun iv _ => M - (intOf iv).toNat)
  case atStart => exact ⟨0, Nat.zero_le _, rfl, ⟨HO.out⟩, ⟨chB_nil _ _ _⟩, ⟨HB.out⟩⟩
  case round =>
    obtain ⟨i, hi, rfl, ⟨hrow⟩, ⟨hch⟩, ⟨hb⟩⟩ := hrel
    have HRi := Lib.hid hrow
    have HCi := Lib.hid hch
    have HBi := Lib.hid hb
    clear hrow hch hb HO HB
    by_cases hlt : i < M
    · have hd := decide_eq_true (show (i : Int) < (M : Int) by omega)
      have hdn := decide_eq_true hlt
      have p1 : (0 ≤ (i : Int)) = True := eq_true (by omega)
      have p2 : ((i : Int) < (M : Int)) = True := eq_true (by omega)
      obtain ⟨ad, rfl, hc⟩ := (HR.out.below HBi.out).at_ (i : Int) (by omega) (by omega)
      rw [Int.toNat_natCast] at hc
      obtain ⟨x, hx⟩ : ∃ x, rd l (i : Int) = x := ⟨_, rfl⟩
      rw [hx] at hc
      have HX : Hid (l.getD i 0 = x) := Lib.hid (by rw [← hx]; unfold rd; rw [Int.toNat_natCast])
      have Hlt := Lib.hid hlt
      have hMr := HS.out
      have hnx : wrap64 ((i : Int) + 1) = (i : Int) + 1 := by clear hd p1 p2 hc; unfold wrap64; omega
      clear hx hMr
      have HFi := Lib.hid (HF.out.below HBi.out (Nat.le_refl _))
      have HNo : Hid (∀ e, ¬ (0 ≤ x ∧ x < (n : Int) ∧ flips f (l.take i) x.toNat = so) → e = .returned (.int .i64 2) → RChanged W p B n f so l e wr) := Lib.hid (fun e hno he => ⟨f, B, c, HFi.out, .inl rfl, Only.of HBi.out (Nat.le_refl _), .inr ⟨chB_more (by rw [HL.out]; exact Hlt.out) HX.out HCi.out hno, he, rfl⟩⟩)
      by_cases hx0 : x < 0
      · have hdx := decide_eq_true hx0
        have HNo2 := Lib.hid (HNo.out _ (fun h => by omega) rfl)
        clear hlt hi hx0
        go_wp2
        go_ret
        exact HNo2.out
      · have hdx := decide_eq_false hx0
        by_cases hxn : (n : Int) ≤ x
        · have hdn2 := decide_eq_true hxn
          have HNo2 := Lib.hid (HNo.out _ (fun h => by omega) rfl)
          clear hlt hi hx0 hxn
          go_wp2
          go_ret
          exact HNo2.out
        · have hdn2 := decide_eq_false hxn
          obtain ⟨k, rfl⟩ : ∃ k : Nat, x = (k : Int) := ⟨x.toNat, by omega⟩
          have hkn : k < n := by omega
          have hdn3 := decide_eq_false (show ¬ n ≤ k by omega)
          obtain ⟨cw, fw⟩ := OwnB.at_ HRi.out k hkn
          have q1 : (0 ≤ (k : Int)) = True := eq_true (by omega)
          have q2 : ((k : Int) < (n : Int)) = True := eq_true (by omega)
          obtain ⟨v, hv⟩ : ∃ v, flips f (l.take i) k = v := ⟨_, rfl⟩
          rw [hv] at cw
          by_cases hvs : v = so
          · have hne : (v == so) = true := by rw [hvs]; cases so <;> rfl
            have HCh : Hid (chB n f so (l.take (i + 1)) ∧ putF (flips f (l.take i)) k (!so) = flips f (l.take (i + 1))) := Lib.hid (by
              have e : l.take (i + 1) = l.take i ++ [(k : Int)] := by
                have h := HX.out
                have hil : i < l.length := by rw [HL.out]; exact hlt
                rw [List.getD_eq_getElem?_getD, List.getElem?_eq_getElem hil] at h
                rw [List.take_add_one, List.getElem?_eq_getElem hil]
                simp at h
                simp [h]
              rw [e]
              refine ⟨(chB_snoc HCi.out).2 ⟨by omega, by omega, by rw [Int.toNat_natCast, hv, hvs]⟩, ?_⟩
              rw [flips_append, flips_one, Int.toNat_natCast]
              exact putF_flip (by rw [hv, hvs]))
            have HR2 := Lib.hid (OwnB.store HRi.out k (!so))
            rw [HCh.out.2] at HR2
            have HB2 : Hid (Below W.heap.size W (wr.setCell ⟨B', k, none⟩ (.bool (!so)))) := Lib.hid (HBi.out.setCell (p := ⟨B', k, none⟩) HB'.out _)
            clear hlt hi hx0 hxn hkn hv hvs
            go_wp2
            go_roundw
            case rel => exact ⟨i + 1, Hlt.out, by first | rfl | (rw [hnx]; rfl), ⟨by first | exact HR2.out | exact own_drew HR2.out⟩, ⟨HCh.out.1⟩, ⟨by first | exact HB2.out | exact below_drew HB2.out⟩⟩
            case measure => have h1 := Hlt.out; first | (rw [hnx]; simp [intOf]; omega) | (simp [intOf]; omega)
          · have hne : (v == so) = false := by cases v <;> cases so <;> first | rfl | exact absurd rfl hvs
            have HNo2 := Lib.hid (HNo.out _ (fun h => hvs (by rw [← hv]; have := h.2.2; rwa [Int.toNat_natCast] at this)) rfl)
            clear hlt hi hx0 hxn hkn hv hvs
            go_wp2
            go_ret
            exact HNo2.out
    · obtain rfl : i = M := by omega
      have hd := decide_eq_false (show ¬ (i : Int) < (i : Int) by omega)
      have HFi := Lib.hid (HF.out.below HBi.out (Nat.le_refl _))
      have c1 := HFi.out.cell
      have b1 := blk_frozen HFi.out.blk
      have HCl : Hid (chB n f so l) := Lib.hid (by have := HCi.out; rwa [List.take_of_length_le (by rw [HL.out]; exact Nat.le_refl _)] at this)
      have HRl : Hid (OwnB wr W.heap.size B' cx n (flips f l)) := Lib.hid (by have := HRi.out; rwa [List.take_of_length_le (by rw [HL.out]; exact Nat.le_refl _)] at this)
      have HE : Hid (RChanged W p B n f so l (.returned (.int .i64 0)) (wr.setCell ⟨p, 0, none⟩ (.slice (some ⟨B', 0, none⟩) n cx))) := Lib.hid (by
        have h1 := HFi.out
        have hlt' := HLT.out
        have hb' := HB'.out
        refine ⟨flips f l, B', cx, ⟨?_, ?_, by omega, fun j hj => ?_, h1.nn⟩, .inr HB'.out, ?_, .inl ⟨HCl.out, rfl, rfl⟩⟩
        · exact blk_set h1.blk 0 _
        · exact own_move (own_weaken HRl.out (Nat.zero_le _)) (fun kk hkk => Below.heap_setCell wr _ _ kk (by have := own_base HRl.out kk hkk; intro e; simp at e; omega))
        · rw [flips_at l f j (chB_unlike HCl.out), if_neg (fun hm => by have := (HCl.out.1 _ hm).2.1; omega)]
          exact h1.out j hj
        · exact (Only.of HBi.out (Nat.le_refl _)).trans (Only.grown (gset (World.grownBy.refl wr (some p)) 0 _) (.inl rfl)))
      clear hlt hi
      go_wp2
      go_ret
      exact HE.out
theorem rkeep_calls {W : World} {p B c n : Nat} {f : Nat → Bool} (h : RefAt W p B c n f) (P : Option Addr) (M cap : Nat) (l : List Int) (hr : ReadsInt W .i64 P M l) (hs : M * 8 ≤ 140737488355328) :
    Calls Tryd.prog 27 #[.pointer (some ⟨p, 0, none⟩), .slice P M cap] W fun e w' => RChanged W p B n f true l e w' := by
  have HC := Lib.hid (rchange_calls h true P M cap l hr hs)
  clear h hr hs
  go_enter Tryd.func27, Tryd.ntmps27
  go_wp2_with fail
  refine HC.out.mono ?_; rintro e w1 ⟨f', B', c', hf, hB, ho, hc⟩
  have HF := Lib.hid hf
  have HO := Lib.hid ho
  have HB := Lib.hid hB
  clear hf ho hB
  rcases hc with ⟨h1, rfl, h2⟩ | ⟨h1, rfl, h2⟩
  · have H1 := Lib.hid h1
    clear h1
    go_wp2
    go_ret
    exact ⟨f', B', c', HF.out, HB.out, HO.out, .inl ⟨H1.out, rfl, h2⟩⟩
  · have H1 := Lib.hid h1
    clear h1
    go_wp2
    go_ret
    exact ⟨f', B', c', HF.out, HB.out, HO.out, .inr ⟨H1.out, rfl, h2⟩⟩
theorem rgive_calls {W : World} {p B c n : Nat} {f : Nat → Bool} (h : RefAt W p B c n f) (P : Option Addr) (M cap : Nat) (l : List Int) (hr : ReadsInt W .i64 P M l) (hs : M * 8 ≤ 140737488355328) :
    Calls Tryd.prog 25 #[.pointer (some ⟨p, 0, none⟩), .slice P M cap] W fun e w' => RChanged W p B n f false l e w' := by
  have HC := Lib.hid (rchange_calls h false P M cap l hr hs)
  clear h hr hs
  go_enter Tryd.func25, Tryd.ntmps25
  go_wp2_with fail
  refine HC.out.mono ?_; rintro e w1 ⟨f', B', c', hf, hB, ho, hc⟩
  have HF := Lib.hid hf
  have HO := Lib.hid ho
  have HB := Lib.hid hB
  clear hf ho hB
  rcases hc with ⟨h1, rfl, h2⟩ | ⟨h1, rfl, h2⟩
  · have H1 := Lib.hid h1
    clear h1
    go_wp2
    go_ret
    exact ⟨f', B', c', HF.out, HB.out, HO.out, .inl ⟨H1.out, rfl, h2⟩⟩
  · have H1 := Lib.hid h1
    clear h1
    go_wp2
    go_ret
    exact ⟨f', B', c', HF.out, HB.out, HO.out, .inr ⟨H1.out, rfl, h2⟩⟩
end Go.Proofs.YtdjjmmndfbffcaaDoor.FM

namespace Go.Proofs.YtdjjmmndfbffcaaDoor.FM
open Go.RowKit Go.Proofs.YtdjjmmndfbffcaaDoorW.PrintWords Go.Proofs.YtdjjmmndfbffcaaDoorW.PrintLast Go.Proofs.YtdjjmmndfbffcaaDoorW.PrintMore
set_option linter.unusedVariables false
set_option linter.unusedSimpArgs false
set_option maxHeartbeats 2000000 in
set_option maxRecDepth 100000 in
theorem sameInts_calls {W : World} {A1 A2 : Option Addr} {N c1 c2 : Nat} {l : List Int} (h1 : ReadsInt W .i64 A1 N l) (h2 : ReadsInt W .i64 A2 N l) (hl : N ≤ 4611686018427387904) :
    Calls Tryd.prog 23 #[.slice A1 N c1, .slice A2 N c2] W fun e w' => e = .returned (.bool true) ∧ Below W.heap.size W w' := by
  have H1 := Lib.hid h1
  have H2 := Lib.hid h2
  have HN := Lib.hid hl
  have hne : (N == N) = true := by simp
  have hne2 : ((N : Int) == (N : Int)) = true := by simp
  clear h1 h2 hl
  go_enter Tryd.func23, Tryd.ntmps23
  go_wp2_with fail
  clear hne hne2
  go_loopw [5] (fun iv V => ∃ j : Nat, j ≤ N ∧ iv = .int .i64 (j : Int) ∧ Aside0 (Below W.heap.size W V)) (fun iv _ => N - (intOf iv).toNat)
  case atStart => exact ⟨0, Nat.zero_le _, rfl, ⟨Below.refl _ _⟩⟩
  case round =>
    obtain ⟨j, hj, rfl, ⟨hb⟩⟩ := hrel
    have HB := Lib.hid hb
    clear hb
    by_cases hlt : j < N
    · have hd := decide_eq_true (show (j : Int) < (N : Int) by omega)
      have hdn := decide_eq_true hlt
      obtain ⟨a1, rfl, s1⟩ := (H1.out.below HB.out).at_ (j : Int) (by omega) (by omega)
      obtain ⟨a2, rfl, s2⟩ := (H2.out.below HB.out).at_ (j : Int) (by omega) (by omega)
      rw [Int.toNat_natCast] at s1 s2
      obtain ⟨x, hx⟩ : ∃ x, rd l (j : Int) = x := ⟨_, rfl⟩
      rw [hx] at s1 s2
      have p1 : (0 ≤ (j : Int)) = True := eq_true (by omega)
      have p2 : ((j : Int) < (N : Int)) = True := eq_true (by omega)
      have hnx : wrap64 ((j : Int) + 1) = (j : Int) + 1 := by have := HN.out; clear hd p1 p2 s1 s2; unfold wrap64; omega
      have Hlt := Lib.hid hlt
      have Hnx := Lib.hid hnx
      have hxx : (x == x) = true := by simp
      clear hx hlt hj hnx
      go_upto_region 6 with fail
      clear hd hdn
      refine start_ (n := 9) (S := fun w' => w'.cell? (a1.add j) = some (.int .i64 x) ∧ w'.cell? (a2.add j) = some (.int .i64 x)) (ds := []) #[false, false, false, false, false, false, false, false, false] (by kernel_rfl) rfl rfl ⟨s1, s2⟩ (fun hHeld => ?_)
      refine pure_ (i := 0) (N := some 17) (v := ?_) (a' := ?_) #[true, false, false, false, false, false, false, false, false] rfl rfl (by kernel_rfl) (fun _ _ _ h => h) (Or.inl ⟨by rfl, ?_⟩) ?_ ?_
      rotate_left
      · intro w'
        go_simp
        with_reducible rfl
      rotate_left
      · simp only [Act.put, List.setIfInBounds_toArray, List.set_cons_zero, List.set_cons_succ, i64_w, i32_w]
        rfl
      refine pure_ (i := 1) (N := some 18) (v := ?_) (a' := ?_) #[true, true, false, false, false, false, false, false, false] rfl rfl (by kernel_rfl) (fun _ _ _ h => h) (Or.inl ⟨by rfl, ?_⟩) ?_ ?_
      rotate_left
      · intro w'
        go_simp
        with_reducible rfl
      rotate_left
      · simp only [Act.put, List.setIfInBounds_toArray, List.set_cons_zero, List.set_cons_succ, i64_w, i32_w]
        rfl
      refine pure_ (i := 2) (N := some 19) (v := ?_) (a' := ?_) #[true, true, true, false, false, false, false, false, false] rfl rfl (by kernel_rfl) (fun _ _ _ h => h) (Or.inl ⟨by rfl, ?_⟩) ?_ ?_
      rotate_left
      · intro w'
        go_simp
        with_reducible rfl
      rotate_left
      · simp only [Act.put, List.setIfInBounds_toArray, List.set_cons_zero, List.set_cons_succ, i64_w, i32_w]
        rfl
      refine pure_ (i := 4) (N := some 21) (v := ?_) (a' := ?_) #[true, true, true, false, true, false, false, false, false] rfl rfl (by kernel_rfl) (fun _ _ _ h => h) (Or.inl ⟨by rfl, ?_⟩) ?_ ?_
      rotate_left
      · intro w'
        go_simp
        with_reducible rfl
      rotate_left
      · simp only [Act.put, List.setIfInBounds_toArray, List.set_cons_zero, List.set_cons_succ, i64_w, i32_w]
        rfl
      refine pure_ (i := 5) (N := some 22) (v := ?_) (a' := ?_) #[true, true, true, false, true, true, false, false, false] rfl rfl (by kernel_rfl) (fun _ _ _ h => h) (Or.inl ⟨by rfl, ?_⟩) ?_ ?_
      rotate_left
      · intro w'
        go_simp
        with_reducible rfl
      rotate_left
      · simp only [Act.put, List.setIfInBounds_toArray, List.set_cons_zero, List.set_cons_succ, i64_w, i32_w]
        rfl
      refine pure_ (i := 6) (N := some 23) (v := ?_) (a' := ?_) #[true, true, true, false, true, true, true, false, false] rfl rfl (by kernel_rfl) (fun _ _ _ h => h) (Or.inl ⟨by rfl, ?_⟩) ?_ ?_
      rotate_left
      · intro w'
        go_simp
        with_reducible rfl
      rotate_left
      · simp only [Act.put, List.setIfInBounds_toArray, List.set_cons_zero, List.set_cons_succ, i64_w, i32_w]
        rfl
      refine take_ (i := 3) (N := some 20) (v := ?_) (a' := ?_) #[true, true, true, true, true, true, true, false, false] rfl rfl (by kernel_rfl) (fun _ _ _ h => h) (Or.inl ⟨by rfl, ?_⟩) hHeld ?_ ?_
      rotate_left
      · rintro w' ⟨s0, s1⟩
        go_simp
        with_reducible rfl
      rotate_left
      · simp only [Act.put, List.setIfInBounds_toArray, List.set_cons_zero, List.set_cons_succ, i64_w, i32_w]
        rfl
      refine take_ (i := 7) (N := some 24) (v := ?_) (a' := ?_) #[true, true, true, true, true, true, true, true, false] rfl rfl (by kernel_rfl) (fun _ _ _ h => h) (Or.inl ⟨by rfl, ?_⟩) hHeld ?_ ?_
      rotate_left
      · rintro w' ⟨s0, s1⟩
        go_simp
        with_reducible rfl
      rotate_left
      · simp only [Act.put, List.setIfInBounds_toArray, List.set_cons_zero, List.set_cons_succ, i64_w, i32_w]
        rfl
      refine pure_ (i := 8) (N := some 25) (v := ?_) (a' := ?_) #[true, true, true, true, true, true, true, true, true] rfl rfl (by kernel_rfl) (fun _ _ _ h => h) (Or.inl ⟨by rfl, ?_⟩) ?_ ?_
      rotate_left
      · intro w'
        go_simp
        with_reducible rfl
      rotate_left
      · simp only [Act.put, List.setIfInBounds_toArray, List.set_cons_zero, List.set_cons_succ, i64_w, i32_w]
        rfl
      refine done_ (by kernel_rfl) ?_
      clear hHeld s1 s2 p1 p2
      have hnx := Hnx.out
      go_wp2
      go_roundw
      case rel => exact ⟨j + 1, Hlt.out, by first | rfl | (rw [hnx]; rfl), ⟨by first | exact HB.out | exact below_drew HB.out⟩⟩
      case measure => have h1 := Hlt.out; first | (rw [hnx]; simp [intOf]; omega) | (simp [intOf]; omega)
    · obtain rfl : j = N := by omega
      have hd := decide_eq_false (show ¬ (j : Int) < (j : Int) by omega)
      go_wp2
      go_ret
      exact ⟨rfl, HB.out⟩
end Go.Proofs.YtdjjmmndfbffcaaDoor.FM

namespace Go.Proofs.YtdjjmmndfbffcaaDoor.FM
open Go.RowKit Go.Proofs.YtdjjmmndfbffcaaDoorW.PrintWords Go.Proofs.YtdjjmmndfbffcaaDoorW.PrintLast Go.Proofs.YtdjjmmndfbffcaaDoorW.PrintMore Go.Proofs.YtdjjmmndfbffcaaDoor.CD
set_option linter.unusedVariables false
set_option linter.unusedSimpArgs false
def OB (w : World) (base : Nat) (v : Value) (l : List Int) : Prop := w.ownsRow base 5 1 v l.length (nums .u8 l)
theorem OB.slice {w : World} {base : Nat} {v : Value} {l : List Int} (h : OB w base v l) : ∃ A c, v = .slice A l.length c ∧ l.length ≤ c ∧ ReadsInt w .u8 A l.length l := by
  obtain ⟨A, c, rfl, hr⟩ := own_reads (k := .u8) h
  exact ⟨A, c, rfl, own_le h, hr⟩
theorem OB.below {w w1 : World} {base : Nat} {v : Value} {l : List Int} (h : OB w base v l) (hb : Below w.heap.size w w1) : OB w1 base v l := pw_own_below h hb
set_option maxRecDepth 100000 in
theorem size_calls (n : Nat) (hn : 256 ≤ n ∧ n ≤ 131072) (W : World) : Calls Tryd.prog 20 #[.int .i64 (n : Int)] W fun e w' => e = .returned (.int .i64 (sizeN n : Int)) ∧ Below W.heap.size W w' := by
  have d1 := decide_eq_false (show ¬ (n : Int) < 256 by omega)
  have d2 := decide_eq_false (show ¬ 131072 < (n : Int) by omega)
  have d1n := decide_eq_false (show ¬ n < 256 by omega)
  have d2n := decide_eq_false (show ¬ 131072 < n by omega)
  have h1 : wrap64 ((n : Int) + 4000) = (n : Int) + 4000 := by unfold wrap64; omega
  have h2 : wrap64 ((n : Int) + 4000 - 1) = ((n + 3999 : Nat) : Int) := by unfold wrap64; omega
  have h3 : wrap64 (Int.tdiv ((n + 3999 : Nat) : Int) 4000) = (sizeN n : Int) := by rw [Int.tdiv_eq_ediv_of_nonneg (by omega)]; unfold wrap64 sizeN; omega
  have h4 : wrap64 (((n : Int) + 3999) / 4000) = (sizeN n : Int) := by unfold wrap64 sizeN; omega
  have h5 : wrap64 (Int.tdiv ((n : Int) + 3999) 4000) = (sizeN n : Int) := by rw [Int.tdiv_eq_ediv_of_nonneg (by omega)]; unfold wrap64 sizeN; omega
  have H5 := Lib.hid h5
  clear h5 h3 h4
  clear hn
  go_enter Tryd.func20, Tryd.ntmps20
  go_wp2
  go_ret
  refine ⟨?_, Below.refl _ _⟩
  show Ending.returned (Value.int .i64 (wrap64 (Int.tdiv ((n : Int) + 3999) 4000))) = _
  rw [H5.out]
end Go.Proofs.YtdjjmmndfbffcaaDoor.FM

namespace Go.Proofs.YtdjjmmndfbffcaaDoor.FM
open Go.RowKit Go.Proofs.YtdjjmmndfbffcaaDoorW.PrintWords Go.Proofs.YtdjjmmndfbffcaaDoorW.PrintLast Go.Proofs.YtdjjmmndfbffcaaDoorW.PrintMore
set_option linter.unusedVariables false
set_option linter.unusedSimpArgs false
structure DoAt (W : World) (a : Addr) (wh x : Int) (P : Option Addr) (M c : Nat) (l : List Int) : Prop where
  c0 : W.cell? a = some (.int .i64 wh)
  c1 : W.cell? ⟨a.block, a.off + 1, none⟩ = some (.int .i64 x)
  c2 : W.cell? ⟨a.block, a.off + 2, none⟩ = some (.slice P M c)
  le : M ≤ c
  reads : ReadsInt W .i64 P M l
theorem DoAt.below {W W' : World} {a : Addr} {wh x : Int} {P : Option Addr} {M c : Nat} {l : List Int} (h : DoAt W a wh x P M c l) (hb : Below W.heap.size W W') : DoAt W' a wh x P M c l :=
  ⟨pw_cell_below hb h.c0, pw_cell_below hb h.c1, pw_cell_below hb h.c2, h.le, h.reads.below hb⟩
def Dos (W : World) (A : Option Addr) (N : Nat) : Prop := ∀ j, j < N → ∃ ad wh x P M c l, A = some ad ∧ DoAt W (ad.add (j * 3)) wh x P M c l
theorem Dos.below {W W' : World} {A : Option Addr} {N : Nat} (h : Dos W A N) (hb : Below W.heap.size W W') : Dos W' A N := fun j hj => by
  obtain ⟨ad, wh, x, P, M, c, l, h1, h2⟩ := h j hj
  exact ⟨ad, wh, x, P, M, c, l, h1, h2.below hb⟩
theorem size_no (n : Int) (h : n < 256 ∨ 131072 < n) (W : World) : Calls Tryd.prog 20 #[.int .i64 n] W fun e w' => e = .returned (.int .i64 0) ∧ Below W.heap.size W w' := by
  by_cases h1 : n < 256
  · have hd := decide_eq_true h1
    go_enter Tryd.func20, Tryd.ntmps20
    go_wp2
    go_ret
    exact ⟨rfl, Below.refl _ _⟩
  · have hd := decide_eq_false h1
    have hd2 : decide (131072 < n) = true := decide_eq_true (by omega)
    go_enter Tryd.func20, Tryd.ntmps20
    go_wp2
    go_ret
    exact ⟨rfl, Below.refl _ _⟩
theorem rsize_no (n : Int) (h : n < 256 ∨ 131072 < n) (W : World) : Calls Tryd.prog 21 #[.int .i64 n] W fun e w' => e = .returned (.int .i64 0) ∧ Below W.heap.size W w' := by
  by_cases h1 : n < 256
  · have hd := decide_eq_true h1
    go_enter Tryd.func21, Tryd.ntmps21
    go_wp2
    go_ret
    exact ⟨rfl, Below.refl _ _⟩
  · have hd := decide_eq_false h1
    have hd2 : decide (131072 < n) = true := decide_eq_true (by omega)
    go_enter Tryd.func21, Tryd.ntmps21
    go_wp2
    go_ret
    exact ⟨rfl, Below.refl _ _⟩
def TypeAt (W : World) (k : Nat) (t : TypeId) : Prop := ∃ cs fz, W.heap[k]? = some (.cells cs t fz)
theorem TypeAt.ne {W : World} {k k' : Nat} {t t' : TypeId} (h : TypeAt W k t) (h' : TypeAt W k' t') (hne : t ≠ t') : k ≠ k' := fun e => by
  obtain ⟨cs, fz, h1⟩ := h
  obtain ⟨cs', fz', h2⟩ := h'
  rw [e, h2] at h1
  injection h1 with h1
  injection h1 with _ h1
  exact hne h1.symm
theorem own_typeAt {W : World} {base n : Nat} {e : TypeId} {size : Nat} {v : Value} {xs : List Value} (h : W.ownsRow base e size v n xs) (k : Nat) (hk : v.ownBlock = some k) : TypeAt W k e := by
  rcases h.2 with ⟨h', _⟩ | ⟨g', cap', cur, h', _, hh, _⟩
  · rw [h'] at hk; cases hk
  · rw [h'] at hk
    have : g' = k := by injection hk
    rw [← this]
    exact ⟨_, _, hh⟩
structure PS (base : Nat) (b V : World) (g A c n : Nat) (f : Nat → Bool) (ws : List Nat) (p B c' : Nat) (lv : Value) (ll : List Int) : Prop where
  m : FmAt V g A c n f ws
  r : RefAt V p B c' n f
  last : V.ownsRow base 3 1 lv ll.length (nums .i64 ll)
  few : ll.length ≤ 131072
  below : Below base b V
  bases : base ≤ g ∧ base ≤ A ∧ base ≤ p ∧ base ≤ B ∧ base ≤ b.heap.size ∧ b.heap.size ≤ V.heap.size
theorem PS.tys {base : Nat} {b V : World} {g A c n : Nat} {f : Nat → Bool} {ws : List Nat} {p B c' : Nat} {lv : Value} {ll : List Int} (h : PS base b V g A c n f ws p B c' lv ll) :
    TypeAt V g 54 ∧ TypeAt V A 56 ∧ TypeAt V p 61 ∧ TypeAt V B 4 := ⟨⟨_, _, h.m.blk⟩, own_typeAt h.m.row A rfl, ⟨_, _, h.r.blk⟩, own_typeAt h.r.row B rfl⟩
theorem PS.under {base : Nat} {b V V' : World} {g A c n : Nat} {f : Nat → Bool} {ws : List Nat} {p B c' : Nat} {lv : Value} {ll : List Int} (h : PS base b V g A c n f ws p B c' lv ll) (hb : Below V.heap.size V V') : PS base b V' g A c n f ws p B c' lv ll :=
  ⟨h.m.below hb (Nat.le_refl _), h.r.below hb (Nat.le_refl _), pw_own_below h.last hb, h.few, ⟨hb.os.trans h.below.os, hb.tape.trans h.below.tape, hb.output.trans h.below.output, Nat.le_trans h.below.size hb.size, fun k hk => (hb.block k (by have := h.bases; omega)).trans (h.below.block k hk)⟩, by have := h.bases; have := hb.size; omega⟩
theorem PS.drew {base : Nat} {b V : World} {g A c n : Nat} {f : Nat → Bool} {ws : List Nat} {p B c' : Nat} {lv : Value} {ll : List Int} (h : PS base b V g A c n f ws p B c' lv ll) : PS base b V.drew g A c n f ws p B c' lv ll := h.under (below_drew (Below.refl _ _))
structure Keep (V V' : World) : Prop where
  row : ∀ {base : Nat} {v : Value} {n : Nat} {xs : List Value}, V.ownsRow base 3 1 v n xs → V'.ownsRow base 3 1 v n xs
  blk : ∀ {X : Nat} {cs : Array Value}, V.heap[X]? = some (.cells cs 41 (0, 0)) → V'.heap[X]? = some (.cells cs 41 (0, 0))
theorem Keep.trans {a b c : World} (h : Keep a b) (k : Keep b c) : Keep a c := ⟨fun r => k.row (h.row r), fun r => k.blk (h.blk r)⟩
theorem Keep.under {V V' : World} (hb : Below V.heap.size V V') : Keep V V' := ⟨fun r => pw_own_below r hb, fun r => blk_below r hb⟩
theorem Only.keep {g A : Nat} {V V' : World} {t t' : TypeId} (o : Only g A V V') (hg : TypeAt V g t) (hA : TypeAt V A t') (h1 : 3 ≠ t) (h2 : 3 ≠ t') (h3 : 41 ≠ t) (h4 : 41 ≠ t') : Keep V V' :=
  ⟨fun r => own_move r (fun k hk => o.block k (own_lt r k hk) ((own_typeAt r k hk).ne hg h1) ((own_typeAt r k hk).ne hA h2)), fun {X cs} r => (o.block X (blk_lt r) (TypeAt.ne ⟨_, _, r⟩ hg h3) (TypeAt.ne ⟨_, _, r⟩ hA h4)).trans r⟩
theorem PS.onM {base : Nat} {b V V' : World} {g A c n : Nat} {f f' : Nat → Bool} {ws ws' : List Nat} {p B c' : Nat} {lv : Value} {ll : List Int} (h : PS base b V g A c n f ws p B c' lv ll) (hm : FmAt V' g A c n f' ws') (ho : Only g A V V') :
    RefAt V' p B c' n f ∧ Keep V V' ∧ Below base b V' := by
  obtain ⟨tg, tA, tp, tB⟩ := h.tys
  have hb := h.bases
  exact ⟨h.r.only ho (tp.ne tg (by decide)) (tp.ne tA (by decide)) (tB.ne tg (by decide)) (tB.ne tA (by decide)), ho.keep tg tA (by decide) (by decide) (by decide) (by decide), Only.below h.below ho (by omega) (by omega) (by omega)⟩
theorem PS.both {base : Nat} {b V V1 V2 : World} {g A c n : Nat} {f f1 : Nat → Bool} {ws ws1 : List Nat} {p B c' B2 c2 : Nat} {lv : Value} {ll : List Int} (h : PS base b V g A c n f ws p B c' lv ll) (hm : FmAt V1 g A c n f1 ws1) (ho : Only g A V V1)
    (hr : RefAt V2 p B2 c2 n f1) (hB : B2 = B ∨ V1.heap.size ≤ B2) (ho2 : Only p B V1 V2) : PS base b V2 g A c n f1 ws1 p B2 c2 lv ll ∧ Keep V V1 ∧ Keep V1 V2 := by
  obtain ⟨r1, k1, b1⟩ := h.onM hm ho
  have tg : TypeAt V1 g 54 := ⟨_, _, hm.blk⟩
  have tA := own_typeAt hm.row A rfl
  have tp : TypeAt V1 p 61 := ⟨_, _, r1.blk⟩
  have tB := own_typeAt r1.row B rfl
  have k2 : Keep V1 V2 := ho2.keep tp tB (by decide) (by decide) (by decide) (by decide)
  have hb := h.bases
  have s1 := ho.size
  have s2 := ho2.size
  refine ⟨⟨hm.only ho2 (tg.ne tp (by decide)) (tg.ne tB (by decide)) (tA.ne tp (by decide)) (tA.ne tB (by decide)), hr, k2.row (k1.row h.last), h.few, Only.below b1 ho2 (by omega) (by omega) (by omega), by omega⟩, k1, k2⟩
open Classical in
noncomputable def chZ (n : Nat) (f : Nat → Bool) (so : Bool) (l : List Int) : Int := if chB n f so l then 0 else 2
open Classical in
noncomputable def chF (n : Nat) (f : Nat → Bool) (so : Bool) (l : List Int) : Nat → Bool := if chB n f so l then flips f l else f
theorem Changed.is {W w' : World} {g A c n : Nat} {f : Nat → Bool} {so : Bool} {l : List Int} {e : Ending} (h : Changed W g A c n f so l e w') : ∃ ws', FmAt w' g A c n (chF n f so l) ws' ∧ Only g A W w' ∧ e = .returned (.int .i64 (chZ n f so l)) := by
  obtain ⟨f', ws', hf, ho, ⟨h1, h2, h3⟩ | ⟨h1, h2, h3⟩⟩ := h
  · exact ⟨ws', by unfold chF; rw [if_pos h1, ← h3]; exact hf, ho, by unfold chZ; rw [if_pos h1]; exact h2⟩
  · exact ⟨ws', by unfold chF; rw [if_neg h1, ← h3]; exact hf, ho, by unfold chZ; rw [if_neg h1]; exact h2⟩
theorem RChanged.is {W w' : World} {p B n : Nat} {f : Nat → Bool} {so : Bool} {l : List Int} {e : Ending} (h : RChanged W p B n f so l e w') : ∃ B' c', RefAt w' p B' c' n (chF n f so l) ∧ (B' = B ∨ W.heap.size ≤ B') ∧ Only p B W w' ∧ e = .returned (.int .i64 (chZ n f so l)) := by
  obtain ⟨f', B', c', hf, hB, ho, ⟨h1, h2, h3⟩ | ⟨h1, h2, h3⟩⟩ := h
  · exact ⟨B', c', by unfold chF; rw [if_pos h1, ← h3]; exact hf, hB, ho, by unfold chZ; rw [if_pos h1]; exact h2⟩
  · exact ⟨B', c', by unfold chF; rw [if_neg h1, ← h3]; exact hf, hB, ho, by unfold chZ; rw [if_neg h1]; exact h2⟩
structure RS (base : Nat) (b V : World) (g A c n : Nat) (f : Nat → Bool) (ws : List Nat) (p B c' : Nat) (lv : Value) (ll : List Int) (X : Nat) (cs : Array Value) (ov : Value) (Kn : Nat) (l3 : List Int) (P : Option Addr) : Prop where
  ps : PS base b V g A c n f ws p B c' lv ll
  x : V.heap[X]? = some (.cells cs 41 (0, 0))
  own : V.ownsRow base 3 1 ov Kn (nums .i64 l3)
  few : ReadsInt V .i64 P Kn l3
theorem RS.under {base : Nat} {b V V' : World} {g A c n : Nat} {f : Nat → Bool} {ws : List Nat} {p B c' : Nat} {lv : Value} {ll : List Int} {X : Nat} {cs : Array Value} {ov : Value} {Kn : Nat} {l3 : List Int} {P : Option Addr} (h : RS base b V g A c n f ws p B c' lv ll X cs ov Kn l3 P) (hb : Below V.heap.size V V') : RS base b V' g A c n f ws p B c' lv ll X cs ov Kn l3 P :=
  ⟨h.ps.under hb, blk_below h.x hb, pw_own_below h.own hb, h.few.below hb⟩
theorem RS.drew {base : Nat} {b V : World} {g A c n : Nat} {f : Nat → Bool} {ws : List Nat} {p B c' : Nat} {lv : Value} {ll : List Int} {X : Nat} {cs : Array Value} {ov : Value} {Kn : Nat} {l3 : List Int} {P : Option Addr} (h : RS base b V g A c n f ws p B c' lv ll X cs ov Kn l3 P) : RS base b V.drew g A c n f ws p B c' lv ll X cs ov Kn l3 P := h.under (below_drew (Below.refl _ _))
set_option maxHeartbeats 8000000 in
set_option maxRecDepth 100000 in
theorem playsWalk (n : Int) (P0 : Option Addr) (N cap : Nat) (W : World) (hd0 : Dos W P0 N) (hT : TZ W) :
    Calls Tryd.prog 5 #[.int .i64 n, .slice P0 N cap] W fun e w' => e = .returned (.bool true) ∧ Below W.heap.size W w' := by
  have HD := Lib.hid hd0
  have HT := Lib.hid hT
  have HW := Lib.hid (fun V (h : TZ V) => works22 V h)
  clear hd0 hT
  by_cases hn : n < 256 ∨ 131072 < n
  · have H1 := Lib.hid (fun V => new_no n hn V)
    have H2 := Lib.hid (fun V => rnew_no n hn V)
    have H3 := Lib.hid (fun V => size_no n hn V)
    have H4 := Lib.hid (fun V => rsize_no n hn V)
    clear hn
    go_enter Tryd.func5, Tryd.ntmps5
    go_wp2_with fail
    refine (H1.out _).mono ?_; rintro e w1 ⟨rfl, hb1⟩
    have HB1 := Lib.hid hb1
    clear hb1
    go_wp2_with fail
    refine (H2.out _).mono ?_; rintro e w2 ⟨rfl, hb2⟩
    have HB2 := Lib.hid (below_step HB1.out hb2)
    clear hb2
    go_wp2_with fail
    refine (H3.out _).mono ?_; rintro e w3 ⟨rfl, hb3⟩
    have HB3 := Lib.hid (below_step HB2.out hb3)
    clear hb3
    go_wp2_with fail
    refine (H4.out _).mono ?_; rintro e w4 ⟨rfl, hb4⟩
    have HB4 := Lib.hid (below_step HB3.out hb4)
    clear hb4
    go_wp2_with fail
    refine (HW.out _ (HT.out.below HB4.out HT.out.lt)).mono ?_; rintro e w5 ⟨rfl, hb5⟩
    have HB5 := Lib.hid (below_step HB4.out hb5)
    clear hb5
    go_wp2
    go_ret
    exact ⟨rfl, HB5.out⟩
  · obtain ⟨n, rfl⟩ : ∃ q : Nat, n = (q : Int) := ⟨n.toNat, by omega⟩
    have hnn : 256 ≤ n ∧ n ≤ 131072 := by omega
    have HNN := Lib.hid hnn
    have H1 := Lib.hid (fun V => new_calls n hnn V)
    have H2 := Lib.hid (fun V => rnew_calls n hnn V)
    have H3 := Lib.hid (fun V => size_calls n hnn V)
    have H4 := Lib.hid (fun V => rsize_calls n hnn V)
    obtain ⟨S, hS⟩ : ∃ S, sizeN n = S := ⟨_, rfl⟩
    rw [hS] at H3 H4
    have hse : ((S : Int) == (S : Int)) = true := by simp
    have hse2 : (S == S) = true := by simp
    clear hn hnn hS
    go_enter Tryd.func5, Tryd.ntmps5
    go_wp2_with fail
    refine (H1.out _).mono ?_; rintro e w1 ⟨rfl, ⟨c, ws, hfm⟩, hb1⟩
    obtain ⟨g, hg⟩ : ∃ g, W.heap.size + 1 = g := ⟨_, rfl⟩
    obtain ⟨A, hA⟩ : ∃ A, W.heap.size = A := ⟨_, rfl⟩
    rw [hg, hA] at hfm
    rw [hg]
    have HG : Hid (W.heap.size ≤ g ∧ W.heap.size ≤ A) := Lib.hid (by omega)
    have HF1 := Lib.hid hfm
    have HB1 := Lib.hid hb1
    clear hb1 hfm hg hA H1
    go_wp2_with fail
    refine (H2.out _).mono ?_; rintro e w2 ⟨⟨p, B, c', rfl, hr, hp, hB⟩, hb2⟩
    have HP0 : Hid (PS W.heap.size W w2 g A c n (upTo n) ws p B c' (.slice none 0 0) []) := Lib.hid ⟨HF1.out.below hb2 (Nat.le_refl _), hr, own_nil _ _ _ _, by simp, below_step HB1.out hb2, by have := HB1.out.size; have := HG.out; have := hb2.size; omega⟩
    clear hr hp hB hb2 H2 HF1 HB1 HG
    go_wp2_with fail
    refine (H3.out _).mono ?_; rintro e w3 ⟨rfl, hb3⟩
    have HP3 := Lib.hid (HP0.out.under hb3)
    clear hb3 H3 HP0
    go_wp2_with fail
    refine (H4.out _).mono ?_; rintro e w4 ⟨rfl, hb4⟩
    have HP4 := Lib.hid (HP3.out.under hb4)
    clear hb4 H4 HP3
    go_wp2_with fail
    clear hse hse2
    go_loopw [10, 5, 9] (fun iv mv lv V => ∃ (i g A c : Nat) (f : Nat → Bool) (ws : List Nat) (B c' : Nat) (ll : List Int), i ≤ 25 ∧ iv = .int .i64 (i : Int) ∧ mv = .pointer (some ⟨g, 0, none⟩) ∧ Aside0 (PS W.heap.size W V g A c n f ws p B c' lv ll)) (fun iv _ _ _ => 25 - (intOf iv).toNat)
    case atStart => exact ⟨0, g, A, c, _, ws, B, c', [], by omega, rfl, rfl, ⟨HP4.out⟩⟩
    case round =>
      obtain ⟨i, g, A, c, f, ws, B, c', ll, hi, rfl, rfl, ⟨hps⟩⟩ := hrel
      have HPi := Lib.hid hps
      clear hps HP4
      by_cases hlt : i < N ∧ i < 25
      · have hd := decide_eq_true (show (i : Int) < (N : Int) by omega)
        have hdn := decide_eq_true hlt.1
        have hd2 := decide_eq_true (show (i : Int) < 25 by omega)
        have hd2n := decide_eq_true hlt.2
        have Hlt := Lib.hid hlt
        obtain ⟨ad, wh, xn, P, M, cx, l, rfl, hda0⟩ := HD.out i hlt.1
        have HDr := Lib.hid hda0.reads
        have hda := hda0.below HPi.out.below
        clear hda0
        have p1 : (0 ≤ (i : Int)) = True := eq_true (by omega)
        have p2 : ((i : Int) < (N : Int)) = True := eq_true (by omega)
        have HDa := Lib.hid hda
        obtain ⟨x0, x1, x2⟩ : wr.cell? (ad.add (i * 3)) = some (.int .i64 wh) ∧ wr.cell? ⟨(ad.add (i * 3)).block, (ad.add (i * 3)).off + 1, none⟩ = some (.int .i64 xn) ∧ wr.cell? ⟨(ad.add (i * 3)).block, (ad.add (i * 3)).off + 2, none⟩ = some (.slice P M cx) := ⟨hda.c0, hda.c1, hda.c2⟩
        clear hlt hi hda
        go_upto_region 12 with fail
        have HX : Hid ((wr.alloc (.cells #[.int .i64 wh, .int .i64 xn, .slice P M cx] 41)).heap[wr.heap.size]? = some (.cells #[.int .i64 wh, .int .i64 xn, .slice P M cx] 41 (0, 0))) := Lib.hid (blk_new wr _)
        have HQ := Lib.hid (HPi.out.under (below_alloc (Below.refl _ _) (.cells #[.int .i64 wh, .int .i64 xn, .slice P M cx] 41)))
        obtain ⟨X, hX⟩ : ∃ X, wr.heap.size = X := ⟨_, rfl⟩
        obtain ⟨V1, hV1⟩ : ∃ V, wr.alloc (.cells #[.int .i64 wh, .int .i64 xn, .slice P M cx] 41) = V := ⟨_, rfl⟩
        have HXb : Hid (W.heap.size ≤ X) := Lib.hid (by rw [← hX]; have := HPi.out.bases; omega)
        have HDb : Hid (M ≤ cx ∧ ReadsInt W .i64 P M l) := Lib.hid ⟨HDa.out.le, HDr.out⟩
        rw [hV1] at HX HQ
        rw [hX] at HX
        rw [hV1, hX]
        clear hX hV1 x0 x1 x2 p1 p2 hd hdn hd2 hd2n HPi HDa
        have x2 := blk_cell HX.out 2
        simp only [List.getElem?_toArray, List.getElem?_cons_succ, List.getElem?_cons_zero] at x2
        obtain ⟨Kn, hK⟩ : ∃ Kn, min M 300 = Kn := ⟨_, rfl⟩
        have HK : Hid (Kn ≤ 300 ∧ Kn ≤ M) := Lib.hid (by omega)
        have hmin : min (M : Int) 300 = (Kn : Int) := by omega
        have p1 : (0 ≤ (Kn : Int)) = True := eq_true (by omega)
        have p2 : ((Kn : Int) ≤ (cx : Int)) = True := eq_true (by have := HDb.out.1; omega)
        obtain ⟨l3, hl3⟩ : ∃ l3, l.take Kn = l3 := ⟨_, rfl⟩
        have HRf : Hid (ReadsInt W .i64 P Kn l3) := Lib.hid (by rw [← hl3]; exact HDb.out.2.take_ Kn (by omega))
        have HRf1 := Lib.hid (HRf.out.below HQ.out.below)
        have HL3 : Hid (l3.length = Kn) := Lib.hid HRf.out.1
        clear hK hl3
        have HN0 : Hid (V1.ownsRow W.heap.size 3 1 (.slice none 0 0) ([] : List Int).length (nums .i64 [])) := Lib.hid (own_nil _ _ _ _)
        go_upto_region 15 with (at_builtin; (refine print_append_row (w0 := V1) V1.heap.size rfl (.tmp 74) (.tmp 75) 22 3 .i64 8 rfl Tryd.underlying22 infoInt (by decide) _ [] l3 P Kn cx rfl rfl (own_nil _ _ _ _) HRf1.out (Below.refl _ _) (Nat.le_refl _) (by have := HK.out; simp; omega) ?_; intro uo Wo hoo hbo hgo _; have HO := Lib.hid hoo; have HBo := Lib.hid hbo; clear hoo hbo hgo))
        rw [List.nil_append, HL3.out] at HO
        have HQ2 := Lib.hid (HQ.out.under HBo.out)
        have HX2 := Lib.hid (blk_below HX.out HBo.out)
        have HRf2 := Lib.hid (HRf1.out.below HBo.out)
        have HO2 := Lib.hid (own_weaken HO.out HQ.out.bases.2.2.2.2.2)
        clear HQ HX HRf1 HBo HO hmin p1 p2 x2
        obtain ⟨q, hq⟩ : ∃ q, Int.tmod wh 5 = q := ⟨_, rfl⟩
        obtain ⟨Ao, co, rfl⟩ := own_slice HO2.out
        have x0 := blk_cell HX2.out 0
        simp only [List.getElem?_toArray, List.getElem?_cons_succ, List.getElem?_cons_zero] at x0
        go_upto_block 2 with fail
        clear x0
        go_cut [5, 9, 14] (fun gv lv gd V => ∃ (g A c : Nat) (f : Nat → Bool) (ws : List Nat) (B c' : Nat) (ll : List Int), gv = .pointer (some ⟨g, 0, none⟩) ∧ gd = .bool true ∧ Aside0 (PS W.heap.size W V g A c n f ws p B c' lv ll) ∧ Aside0 (V.heap[X]? = some (.cells #[.int .i64 wh, .int .i64 xn, .slice P M cx] 41 (0, 0))) ∧ Aside0 (V.ownsRow W.heap.size 3 1 (.slice Ao Kn co) Kn (nums .i64 l3)))
        case first =>
          have x1 := blk_cell HX2.out 1
          simp only [List.getElem?_toArray, List.getElem?_cons_succ, List.getElem?_cons_zero] at x1
          have HRf3 := Lib.hid HRf2.out
          by_cases q0 : q = 0
          · have e0 : (q == 0) = true := by simp [q0]
            clear q0
            have HTk := Lib.hid (take_any HQ2.out.m (HT.out.below HQ2.out.below HT.out.lt) xn)
            go_wp2_with fail
            refine HTk.out.mono ?_; rintro e w5 (⟨hno, rfl, hm5, ho5⟩ | ⟨m, v5, ws5, hmn, hmk, rfl, hm5, hrow5, ho5⟩)
            · obtain ⟨r5, k5, b5⟩ := HQ2.out.onM hm5 ho5
              have HRt := Lib.hid (rtake_no r5 xn hno)
              have HM5 := Lib.hid hm5
              have HO5 := Lib.hid ho5
              have HK5 := Lib.hid k5
              have x1' := (blk_cell (HK5.out.blk HX2.out) 1)
              simp only [List.getElem?_toArray, List.getElem?_cons_succ, List.getElem?_cons_zero] at x1'
              have HR5 := Lib.hid r5
              clear hno hm5 ho5 r5 k5 b5 x1
              go_wp2_with fail
              refine HRt.out.mono ?_; rintro e w6 ⟨rfl, hb6⟩
              have HP6 : Hid (PS W.heap.size W w6 g A c n f ws p B c' (.slice none 0 0) [] ∧ Keep Wo w6) := Lib.hid (by
                obtain ⟨h1, h2, h3⟩ := HQ2.out.both HM5.out HO5.out (HR5.out.below hb6 (Nat.le_refl _)) (.inl rfl) (Only.of hb6 (Nat.le_refl _))
                exact ⟨⟨h1.m, h1.r, own_nil _ _ _ _, by simp, h1.below, h1.bases⟩, h2.trans h3⟩)
              have HSi := Lib.hid (sameInts_calls (W := w6) (A1 := none) (A2 := none) (N := 0) (c1 := 0) (c2 := 0) (l := []) ⟨rfl, by decide, fun h => absurd h (by decide)⟩ ⟨rfl, by decide, fun h => absurd h (by decide)⟩ (by decide))
              clear hb6 x1' HRt HTk
              go_wp2_with fail
              refine HSi.out.mono ?_; rintro e w7 ⟨rfl, hb7⟩
              have HP7 := Lib.hid (HP6.out.1.under hb7)
              have HK7 := Lib.hid ((HP6.out.2).trans (Keep.under hb7))
              clear hb7 HP6
              go_wp2
              go_meet
              case rel => exact ⟨g, A, c, f, ws, B, c', [], rfl, rfl, ⟨HP7.out⟩, ⟨HK7.out.blk HX2.out⟩, ⟨HK7.out.row HO2.out⟩⟩
            · obtain ⟨k, rfl⟩ : ∃ k : Nat, xn = (k : Int) := ⟨cnt f m, hmk.symm⟩
              have hmk2 : cnt f m = k := by omega
              obtain ⟨r5, k5, b5⟩ := HQ2.out.onM hm5 ho5
              have HRt := Lib.hid (rtake_calls r5 k (by rw [← hmk2]; exact cnt_mono f m n hmn))
              have HM5 := Lib.hid hm5
              have HO5 := Lib.hid ho5
              have HK5 := Lib.hid k5
              have x1' := (blk_cell (HK5.out.blk HX2.out) 1)
              simp only [List.getElem?_toArray, List.getElem?_cons_succ, List.getElem?_cons_zero] at x1'
              obtain ⟨ml, hml⟩ : ∃ ml, mem f m = ml := ⟨_, rfl⟩
              have Hml : Hid (∀ m', cnt f m' = k → mem f m' = ml ∧ cutF f m' = cutF f m) := Lib.hid (fun m' h => by
                obtain ⟨h1, h2⟩ := cut_same (show cnt f m' = cnt f m by rw [h, hmk2])
                exact ⟨h1.trans hml, h2⟩)
              have HMl : Hid (ml.length ≤ 131072) := Lib.hid (by rw [← hml, mem_length]; have := cnt_le f m; have := HNN.out; omega)
              rw [hml] at hrow5
              have HRo5 := Lib.hid (own_weaken hrow5 HQ2.out.bases.2.2.2.2.2)
              have HOW : Hid (W.heap.size ≤ w5.heap.size) := Lib.hid (by have := HQ2.out.bases; have := ho5.size; omega)
              clear hmk hmk2 hmn hm5 ho5 k5 b5 x1 r5 hrow5 hml
              go_wp2_with fail
              refine HRt.out.mono ?_; rintro e w6 ⟨m', v6, _, hmk', rfl, hr6, hrow6, ho6⟩
              obtain ⟨hm1, hm2⟩ := Hml.out m' hmk'
              rw [hm2] at hr6
              rw [hm1] at hrow6
              have HP6 : Hid (PS W.heap.size W w6 g A c n (cutF f m) ws5 p B c' v5 ml ∧ Keep Wo w6) := Lib.hid (by
                obtain ⟨h1, h2, h3⟩ := HQ2.out.both HM5.out HO5.out hr6 (.inl rfl) ho6
                exact ⟨⟨h1.m, h1.r, h3.row HRo5.out, HMl.out, h1.below, h1.bases⟩, h2.trans h3⟩)
              have HRo6 := Lib.hid hrow6
              clear hmk' hr6 hrow6 ho6 hm1 hm2 x1' HRt HTk HRo5 HM5 HO5
              obtain ⟨A5, c5, rfl⟩ := own_slice HP6.out.1.last
              obtain ⟨A6, c6, rfl⟩ := own_slice HRo6.out
              have HSi := Lib.hid (sameInts_calls (c1 := c5) (c2 := c6) (own_reads' HP6.out.1.last) (own_reads' HRo6.out) (by have := HMl.out; omega))
              go_wp2_with fail
              refine HSi.out.mono ?_; rintro e w7 ⟨rfl, hb7⟩
              have HP7 := Lib.hid (HP6.out.1.under hb7)
              have HK7 := Lib.hid ((HP6.out.2).trans (Keep.under hb7))
              clear hb7 HP6 HSi HRo6
              go_wp2
              go_meet
              case rel => exact ⟨g, A, c, _, ws5, B, c', ml, rfl, rfl, ⟨HP7.out⟩, ⟨HK7.out.blk HX2.out⟩, ⟨HK7.out.row HO2.out⟩⟩
          · have e0 : (q == 0) = false := by simpa using q0
            clear q0
            by_cases q1 : q = 1
            · have e1 : (q == 1) = true := by simp [q1]
              clear q1
              have HC := Lib.hid (give_calls HQ2.out.m Ao Kn co l3 (own_reads' HO2.out) (by have := HK.out; omega))
              go_wp2_with fail
              refine HC.out.mono ?_; intro e w5 hc5
              obtain ⟨ws5, hm5, ho5, rfl⟩ := Changed.is hc5
              obtain ⟨r5, k5, b5⟩ := HQ2.out.onM hm5 ho5
              have HRc := Lib.hid (rgive_calls r5 P Kn cx l3 (HRf.out.below b5) (by have := HK.out; omega))
              have HM5 := Lib.hid hm5
              have HO5 := Lib.hid ho5
              clear hc5 hm5 ho5 r5 k5 b5 HC
              go_wp2_with fail
              refine HRc.out.mono ?_; intro e w6 hc6
              obtain ⟨B6, c6, hr6, hB6, ho6, rfl⟩ := RChanged.is hc6
              have HP6 : Hid (PS W.heap.size W w6 g A c n (chF n f false l3) ws5 p B6 c6 u9 ll ∧ Keep Wo w6) := Lib.hid (by
                obtain ⟨h1, h2, h3⟩ := HQ2.out.both HM5.out HO5.out hr6 hB6 ho6
                exact ⟨h1, h2.trans h3⟩)
              obtain ⟨z, hz⟩ : ∃ z, chZ n f false l3 = z := ⟨_, rfl⟩
              rw [hz]
              have hzz : (z == z) = true := by simp
              have HR2' := Lib.hid (HP6.out.2.row HO2.out)
              have HX2' := Lib.hid (HP6.out.2.blk HX2.out)
              clear hc6 hr6 hB6 ho6 HRc HM5 HO5 hz
              go_wp2
              go_meet
              case rel => exact ⟨g, A, c, _, ws5, B6, c6, ll, rfl, rfl, ⟨HP6.out.1⟩, ⟨HX2'.out⟩, ⟨HR2'.out⟩⟩
            · have e1 : (q == 1) = false := by simpa using q1
              clear q1
              by_cases q2 : q = 2
              · have e2 : (q == 2) = true := by simp [q2]
                clear q2
                have HC := Lib.hid (keep_calls HQ2.out.m Ao Kn co l3 (own_reads' HO2.out) (by have := HK.out; omega))
                go_wp2_with fail
                refine HC.out.mono ?_; intro e w5 hc5
                obtain ⟨ws5, hm5, ho5, rfl⟩ := Changed.is hc5
                obtain ⟨r5, k5, b5⟩ := HQ2.out.onM hm5 ho5
                have HRc := Lib.hid (rkeep_calls r5 P Kn cx l3 (HRf.out.below b5) (by have := HK.out; omega))
                have HM5 := Lib.hid hm5
                have HO5 := Lib.hid ho5
                clear hc5 hm5 ho5 r5 k5 b5 HC
                go_wp2_with fail
                refine HRc.out.mono ?_; intro e w6 hc6
                obtain ⟨B6, c6, hr6, hB6, ho6, rfl⟩ := RChanged.is hc6
                have HP6 : Hid (PS W.heap.size W w6 g A c n (chF n f true l3) ws5 p B6 c6 u9 ll ∧ Keep Wo w6) := Lib.hid (by
                  obtain ⟨h1, h2, h3⟩ := HQ2.out.both HM5.out HO5.out hr6 hB6 ho6
                  exact ⟨h1, h2.trans h3⟩)
                obtain ⟨z, hz⟩ : ∃ z, chZ n f true l3 = z := ⟨_, rfl⟩
                rw [hz]
                have hzz : (z == z) = true := by simp
                have HR2' := Lib.hid (HP6.out.2.row HO2.out)
                have HX2' := Lib.hid (HP6.out.2.blk HX2.out)
                clear hc6 hr6 hB6 ho6 HRc HM5 HO5 hz
                go_wp2
                go_meet
                case rel => exact ⟨g, A, c, _, ws5, B6, c6, ll, rfl, rfl, ⟨HP6.out.1⟩, ⟨HX2'.out⟩, ⟨HR2'.out⟩⟩
              · have e2 : (q == 2) = false := by simpa using q2
                clear q2
                by_cases q3 : q = 3
                · have e3 : (q == 3) = true := by simp [q3]
                  clear q3
                  obtain ⟨Al, cl, rfl⟩ := own_slice HQ2.out.last
                  have HC := Lib.hid (give_calls HQ2.out.m Al ll.length cl ll (own_reads' HQ2.out.last) (by have := HQ2.out.few; omega))
                  go_wp2_with fail
                  refine HC.out.mono ?_; intro e w5 hc5
                  obtain ⟨ws5, hm5, ho5, rfl⟩ := Changed.is hc5
                  obtain ⟨r5, k5, b5⟩ := HQ2.out.onM hm5 ho5
                  have HRc := Lib.hid (rgive_calls r5 Al ll.length cl ll (own_reads' (k5.row HQ2.out.last)) (by have := HQ2.out.few; omega))
                  have HM5 := Lib.hid hm5
                  have HO5 := Lib.hid ho5
                  clear hc5 hm5 ho5 r5 k5 b5 HC
                  go_wp2_with fail
                  refine HRc.out.mono ?_; intro e w6 hc6
                  obtain ⟨B6, c6, hr6, hB6, ho6, rfl⟩ := RChanged.is hc6
                  have HP6 : Hid (PS W.heap.size W w6 g A c n (chF n f false ll) ws5 p B6 c6 (.slice Al ll.length cl) ll ∧ Keep Wo w6) := Lib.hid (by
                    obtain ⟨h1, h2, h3⟩ := HQ2.out.both HM5.out HO5.out hr6 hB6 ho6
                    exact ⟨h1, h2.trans h3⟩)
                  obtain ⟨z, hz⟩ : ∃ z, chZ n f false ll = z := ⟨_, rfl⟩
                  rw [hz]
                  have hzz : (z == z) = true := by simp
                  have HR2' := Lib.hid (HP6.out.2.row HO2.out)
                  have HX2' := Lib.hid (HP6.out.2.blk HX2.out)
                  clear hc6 hr6 hB6 ho6 HRc HM5 HO5 hz
                  go_wp2
                  go_meet
                  case rel => exact ⟨g, A, c, _, ws5, B6, c6, ll, rfl, rfl, ⟨HP6.out.1⟩, ⟨HX2'.out⟩, ⟨HR2'.out⟩⟩
                · have e3 : (q == 3) = false := by simpa using q3
                  clear q3
                  have HCp := Lib.hid (copy_calls HQ2.out.m)
                  go_wp2_with fail
                  refine HCp.out.mono ?_; rintro e w5 ⟨g5, A5, c5, rfl, hm5, hg5, hA5, hb5⟩
                  have HQ5 := Lib.hid (HQ2.out.under hb5)
                  have HK5 := Lib.hid (Keep.under hb5)
                  have HM5 := Lib.hid hm5
                  have HG5 : Hid (g5 ≠ g ∧ g5 ≠ A ∧ A5 ≠ g ∧ A5 ≠ A ∧ W.heap.size ≤ g5 ∧ W.heap.size ≤ A5) := Lib.hid (by have := HQ2.out.m.lt; have := HQ2.out.bases; omega)
                  clear hm5 hg5 hA5 hb5 HCp
                  have HTk := Lib.hid (take_any HQ5.out.m (HT.out.below HQ5.out.below HT.out.lt) 1)
                  go_wp2_with fail
                  refine HTk.out.mono ?_; intro e w6 hk
                  have hk2 : ∃ (v : Value) (f' : Nat → Bool) (ws' : List Nat), e = .returned v ∧ FmAt w6 g A c n f' ws' ∧ Only g A w5 w6 := by
                    rcases hk with ⟨_, rfl, h1, h2⟩ | ⟨_, v, ws', _, _, rfl, h1, _, h2⟩
                    · exact ⟨_, f, ws, rfl, h1, h2⟩
                    · exact ⟨_, _, ws', rfl, h1, h2⟩
                  obtain ⟨v, f6, ws6, rfl, hf6, ho6⟩ := hk2
                  have HF6 := Lib.hid hf6
                  have HO6 := Lib.hid ho6
                  have HRd6 := Lib.hid (HRf.out.below (HQ5.out.onM hf6 ho6).2.2)
                  have HC := Lib.hid (give_calls hf6 P Kn cx l3 HRd6.out (by have := HK.out; omega))
                  clear hk hf6 ho6 HTk
                  go_wp2_with fail
                  refine HC.out.mono ?_; intro e w7 hc7
                  obtain ⟨ws7, hm7, ho7, rfl⟩ := Changed.is hc7
                  have HP7 : Hid (PS W.heap.size W w7 g5 A5 c5 n f ws p B c' u9 ll ∧ Keep Wo w7) := Lib.hid (by
                    have ho := HO6.out.trans ho7
                    obtain ⟨r7, k7, b7⟩ := HQ5.out.onM hm7 ho
                    have hg := HG5.out
                    have hb := HQ5.out.bases
                    have := ho.size
                    exact ⟨⟨HM5.out.only ho hg.1 hg.2.1 hg.2.2.1 hg.2.2.2.1, r7, k7.row HQ5.out.last, HQ5.out.few, b7, by omega⟩, HK5.out.trans k7⟩)
                  have HR2' := Lib.hid (HP7.out.2.row HO2.out)
                  have HX2' := Lib.hid (HP7.out.2.blk HX2.out)
                  clear hc7 hm7 ho7 HC HF6 HO6 HM5 HK5 HQ5
                  go_wp2
                  go_meet
                  case rel => exact ⟨g5, A5, c5, f, ws, B, c', ll, rfl, rfl, ⟨HP7.out.1⟩, ⟨HX2'.out⟩, ⟨HR2'.out⟩⟩
        case rest =>
          obtain ⟨g, A, c, f, ws, B, c', ll, rfl, rfl, ⟨hps⟩, ⟨hx⟩, ⟨ho⟩⟩ := hcut
          have HR : Hid (RS W.heap.size W wc g A c n f ws p B c' u9 ll X #[.int .i64 wh, .int .i64 xn, .slice P M cx] (.slice Ao Kn co) Kn l3 P) := Lib.hid ⟨hps, hx, ho, HRf.out.below hps.below⟩
          have HK3 := Lib.hid HK.out.1
          have HBs : Hid (W.heap.size ≤ wc.heap.size) := Lib.hid hps.bases.2.2.2.2.2
          clear hps hx ho HQ2 HX2 HRf2 HO2 HDr HDb HK HRf HL3 HN0 HXb hq
          have HAt : Hid (∀ V, RS W.heap.size W V g A c n f ws p B c' u9 ll X #[.int .i64 wh, .int .i64 xn, .slice P M cx] (.slice Ao Kn co) Kn l3 P → V.cell? ⟨X, 1, none⟩ = some (.int .i64 xn)) := Lib.hid (fun V h => blk_cell h.x 1)
          have HLn : Hid (∀ V, RS W.heap.size W V g A c n f ws p B c' u9 ll X #[.int .i64 wh, .int .i64 xn, .slice P M cx] (.slice Ao Kn co) Kn l3 P → Calls Tryd.prog 17 #[.pointer (some ⟨g, 0, none⟩)] V fun e w' => e = .returned (.int .i64 (n : Int)) ∧ Below V.heap.size V w') := Lib.hid (fun V h => len_calls h.ps.m)
          obtain ⟨ct, hct⟩ : ∃ ct : Int, (cnt f n : Int) = ct := ⟨_, rfl⟩
          obtain ⟨hs, hhs⟩ : ∃ hs : Bool, hasF f xn = hs := ⟨_, rfl⟩
          have HFr : Hid (∀ V, RS W.heap.size W V g A c n f ws p B c' u9 ll X #[.int .i64 wh, .int .i64 xn, .slice P M cx] (.slice Ao Kn co) Kn l3 P → Calls Tryd.prog 14 #[.pointer (some ⟨g, 0, none⟩)] V fun e w' => e = .returned (.int .i64 ct) ∧ Below V.heap.size V w') := Lib.hid (fun V h => by rw [← hct]; exact free_calls h.ps.m)
          have HFq : Hid (∀ V, RS W.heap.size W V g A c n f ws p B c' u9 ll X #[.int .i64 wh, .int .i64 xn, .slice P M cx] (.slice Ao Kn co) Kn l3 P → Calls Tryd.prog 28 #[.pointer (some ⟨p, 0, none⟩)] V fun e w' => e = .returned (.int .i64 ct) ∧ Below V.heap.size V w') := Lib.hid (fun V h => by rw [← hct]; exact rfree_calls h.ps.r)
          have HHs : Hid (∀ V, RS W.heap.size W V g A c n f ws p B c' u9 ll X #[.int .i64 wh, .int .i64 xn, .slice P M cx] (.slice Ao Kn co) Kn l3 P → Calls Tryd.prog 16 #[.pointer (some ⟨g, 0, none⟩), .int .i64 xn] V fun e w' => e = .returned (.bool hs) ∧ Below V.heap.size V w') := Lib.hid (fun V h => by rw [← hhs]; exact has_calls h.ps.m xn)
          have HHq : Hid (∀ V, RS W.heap.size W V g A c n f ws p B c' u9 ll X #[.int .i64 wh, .int .i64 xn, .slice P M cx] (.slice Ao Kn co) Kn l3 P → Calls Tryd.prog 29 #[.pointer (some ⟨p, 0, none⟩), .int .i64 xn] V fun e w' => e = .returned (.bool hs) ∧ Below V.heap.size V w') := Lib.hid (fun V h => by rw [← hhs]; exact rhas_calls h.ps.r xn)
          have HSm : Hid (∀ V, RS W.heap.size W V g A c n f ws p B c' u9 ll X #[.int .i64 wh, .int .i64 xn, .slice P M cx] (.slice Ao Kn co) Kn l3 P → Calls Tryd.prog 23 #[.slice Ao Kn co, .slice P Kn cx] V fun e w' => e = .returned (.bool true) ∧ Below V.heap.size V w') := Lib.hid (fun V h => sameInts_calls (own_reads' h.own) h.few (by have := HK3.out; omega))
          have z1 : ((n : Int) == (n : Int)) = true := by simp
          have z2 : (ct == ct) = true := by simp
          have z3 : (hs == hs) = true := by simp
          have z4 : (hs != hs) = false := by simp
          clear hct hhs
          go_upto_region 35 with fail
          have HRd := Lib.hid HR.out.drew
          have t1 := HAt.out _ HRd.out
          refine start_ (n := 36) (S := fun w' => w'.cell? ⟨X, 1, none⟩ = some (.int .i64 xn)) (ds := []) #[false, false, false, false, false, false, false, false, false, false, false, false, false, false, false, false, false, false, false, false, false, false, false, false, false, false, false, false, false, false, false, false, false, false, false, false] (by kernel_rfl) rfl rfl (t1) (fun hHeld => ?_)
          refine pure_ (i := 0) (N := some 146) (v := ?_) (a' := ?_) #[true, false, false, false, false, false, false, false, false, false, false, false, false, false, false, false, false, false, false, false, false, false, false, false, false, false, false, false, false, false, false, false, false, false, false, false] rfl rfl (by kernel_rfl) (fun _ _ _ h => h) (Or.inl ⟨by rfl, ?_⟩) ?_ ?_
          rotate_left
          · intro w'
            go_simp
            with_reducible rfl
          rotate_left
          · simp only [Act.put, List.setIfInBounds_toArray, List.set_cons_zero, List.set_cons_succ, i64_w, i32_w]
            rfl
          refine pure_ (i := 1) (N := some 147) (v := ?_) (a' := ?_) #[true, true, false, false, false, false, false, false, false, false, false, false, false, false, false, false, false, false, false, false, false, false, false, false, false, false, false, false, false, false, false, false, false, false, false, false] rfl rfl (by kernel_rfl) (fun _ _ _ h => h) (Or.inl ⟨by rfl, ?_⟩) ?_ ?_
          rotate_left
          · intro w'
            go_simp
            with_reducible rfl
          rotate_left
          · simp only [Act.put, List.setIfInBounds_toArray, List.set_cons_zero, List.set_cons_succ, i64_w, i32_w]
            rfl
          refine pure_ (i := 2) (N := some 148) (v := ?_) (a' := ?_) #[true, true, true, false, false, false, false, false, false, false, false, false, false, false, false, false, false, false, false, false, false, false, false, false, false, false, false, false, false, false, false, false, false, false, false, false] rfl rfl (by kernel_rfl) (fun _ _ _ h => h) (Or.inl ⟨by rfl, ?_⟩) ?_ ?_
          rotate_left
          · intro w'
            go_simp
            with_reducible rfl
          rotate_left
          · simp only [Act.put, List.setIfInBounds_toArray, List.set_cons_zero, List.set_cons_succ, i64_w, i32_w]
            rfl
          refine pure_ (i := 3) (N := some 149) (v := ?_) (a' := ?_) #[true, true, true, true, false, false, false, false, false, false, false, false, false, false, false, false, false, false, false, false, false, false, false, false, false, false, false, false, false, false, false, false, false, false, false, false] rfl rfl (by kernel_rfl) (fun _ _ _ h => h) (Or.inl ⟨by rfl, ?_⟩) ?_ ?_
          rotate_left
          · intro w'
            go_simp
            with_reducible rfl
          rotate_left
          · simp only [Act.put, List.setIfInBounds_toArray, List.set_cons_zero, List.set_cons_succ, i64_w, i32_w]
            rfl
          refine pure_ (i := 4) (N := some 150) (v := ?_) (a' := ?_) #[true, true, true, true, true, false, false, false, false, false, false, false, false, false, false, false, false, false, false, false, false, false, false, false, false, false, false, false, false, false, false, false, false, false, false, false] rfl rfl (by kernel_rfl) (fun _ _ _ h => h) (Or.inl ⟨by rfl, ?_⟩) ?_ ?_
          rotate_left
          · intro w'
            go_simp
            with_reducible rfl
          rotate_left
          · simp only [Act.put, List.setIfInBounds_toArray, List.set_cons_zero, List.set_cons_succ, i64_w, i32_w]
            rfl
          refine pure_ (i := 5) (N := some 151) (v := ?_) (a' := ?_) #[true, true, true, true, true, true, false, false, false, false, false, false, false, false, false, false, false, false, false, false, false, false, false, false, false, false, false, false, false, false, false, false, false, false, false, false] rfl rfl (by kernel_rfl) (fun _ _ _ h => h) (Or.inl ⟨by rfl, ?_⟩) ?_ ?_
          rotate_left
          · intro w'
            go_simp
            with_reducible rfl
          rotate_left
          · simp only [Act.put, List.setIfInBounds_toArray, List.set_cons_zero, List.set_cons_succ, i64_w, i32_w]
            rfl
          refine pure_ (i := 6) (N := some 152) (v := ?_) (a' := ?_) #[true, true, true, true, true, true, true, false, false, false, false, false, false, false, false, false, false, false, false, false, false, false, false, false, false, false, false, false, false, false, false, false, false, false, false, false] rfl rfl (by kernel_rfl) (fun _ _ _ h => h) (Or.inl ⟨by rfl, ?_⟩) ?_ ?_
          rotate_left
          · intro w'
            go_simp
            with_reducible rfl
          rotate_left
          · simp only [Act.put, List.setIfInBounds_toArray, List.set_cons_zero, List.set_cons_succ, i64_w, i32_w]
            rfl
          refine pure_ (i := 7) (N := some 153) (v := ?_) (a' := ?_) #[true, true, true, true, true, true, true, true, false, false, false, false, false, false, false, false, false, false, false, false, false, false, false, false, false, false, false, false, false, false, false, false, false, false, false, false] rfl rfl (by kernel_rfl) (fun _ _ _ h => h) (Or.inl ⟨by rfl, ?_⟩) ?_ ?_
          rotate_left
          · intro w'
            go_simp
            with_reducible rfl
          rotate_left
          · simp only [Act.put, List.setIfInBounds_toArray, List.set_cons_zero, List.set_cons_succ, i64_w, i32_w]
            rfl
          refine pure_ (i := 9) (N := some 155) (v := ?_) (a' := ?_) #[true, true, true, true, true, true, true, true, false, true, false, false, false, false, false, false, false, false, false, false, false, false, false, false, false, false, false, false, false, false, false, false, false, false, false, false] rfl rfl (by kernel_rfl) (fun _ _ _ h => h) (Or.inl ⟨by rfl, ?_⟩) ?_ ?_
          rotate_left
          · intro w'
            go_simp
            with_reducible rfl
          rotate_left
          · simp only [Act.put, List.setIfInBounds_toArray, List.set_cons_zero, List.set_cons_succ, i64_w, i32_w]
            rfl
          refine one_ (i := 8) (N := some 154) #[true, true, true, true, true, true, true, true, true, true, false, false, false, false, false, false, false, false, false, false, false, false, false, false, false, false, false, false, false, false, false, false, false, false, false, false] rfl rfl (by kernel_rfl) (by decide) (fun K hK => ?_)
          refine goes_ Tryd.func17 (by kernel_rfl) rfl #[.pointer (some ⟨g, 0, none⟩)] (by rfl) rfl rfl (by simp only [List.map_toArray, List.map_cons, List.map_nil]; rfl) ?_
          with_reducible refine (HLn.out _ HRd.out).mono ?_
          rintro e wr8 ⟨rfl, hb8⟩
          refine ⟨_, rfl, ?_⟩
          have HR8 := Lib.hid (HRd.out.under hb8)
          clear hb8
          have t8 := HAt.out _ HR8.out
          refine hK.out _ _ (t8) (fun hHeld => ?_)
          clear hK K
          refine norm_ (a' := ?_) ?_ ?_
          rotate_left
          · show Act.put _ (some 154) _ = _
            simp only [Act.put, List.setIfInBounds_toArray, List.set_cons_zero, List.set_cons_succ, i64_w, i32_w]
            rfl
          refine pure_ (i := 10) (N := some 156) (v := ?_) (a' := ?_) #[true, true, true, true, true, true, true, true, true, true, true, false, false, false, false, false, false, false, false, false, false, false, false, false, false, false, false, false, false, false, false, false, false, false, false, false] rfl rfl (by kernel_rfl) (fun _ _ _ h => h) (Or.inl ⟨by rfl, ?_⟩) ?_ ?_
          rotate_left
          · intro w'
            go_simp
            with_reducible rfl
          rotate_left
          · simp only [Act.put, List.setIfInBounds_toArray, List.set_cons_zero, List.set_cons_succ, i64_w, i32_w]
            rfl
          refine pure_ (i := 11) (N := some 157) (v := ?_) (a' := ?_) #[true, true, true, true, true, true, true, true, true, true, true, true, false, false, false, false, false, false, false, false, false, false, false, false, false, false, false, false, false, false, false, false, false, false, false, false] rfl rfl (by kernel_rfl) (fun _ _ _ h => h) (Or.inl ⟨by rfl, ?_⟩) ?_ ?_
          rotate_left
          · intro w'
            go_simp
            with_reducible rfl
          rotate_left
          · simp only [Act.put, List.setIfInBounds_toArray, List.set_cons_zero, List.set_cons_succ, i64_w, i32_w]
            rfl
          refine pure_ (i := 12) (N := some 158) (v := ?_) (a' := ?_) #[true, true, true, true, true, true, true, true, true, true, true, true, true, false, false, false, false, false, false, false, false, false, false, false, false, false, false, false, false, false, false, false, false, false, false, false] rfl rfl (by kernel_rfl) (fun _ _ _ h => h) (Or.inl ⟨by rfl, ?_⟩) ?_ ?_
          rotate_left
          · intro w'
            go_simp
            with_reducible rfl
          rotate_left
          · simp only [Act.put, List.setIfInBounds_toArray, List.set_cons_zero, List.set_cons_succ, i64_w, i32_w]
            rfl
          refine pure_ (i := 13) (N := some 159) (v := ?_) (a' := ?_) #[true, true, true, true, true, true, true, true, true, true, true, true, true, true, false, false, false, false, false, false, false, false, false, false, false, false, false, false, false, false, false, false, false, false, false, false] rfl rfl (by kernel_rfl) (fun _ _ _ h => h) (Or.inl ⟨by rfl, ?_⟩) ?_ ?_
          rotate_left
          · intro w'
            go_simp
            with_reducible rfl
          rotate_left
          · simp only [Act.put, List.setIfInBounds_toArray, List.set_cons_zero, List.set_cons_succ, i64_w, i32_w]
            rfl
          refine pure_ (i := 15) (N := some 161) (v := ?_) (a' := ?_) #[true, true, true, true, true, true, true, true, true, true, true, true, true, true, false, true, false, false, false, false, false, false, false, false, false, false, false, false, false, false, false, false, false, false, false, false] rfl rfl (by kernel_rfl) (fun _ _ _ h => h) (Or.inl ⟨by rfl, ?_⟩) ?_ ?_
          rotate_left
          · intro w'
            go_simp
            with_reducible rfl
          rotate_left
          · simp only [Act.put, List.setIfInBounds_toArray, List.set_cons_zero, List.set_cons_succ, i64_w, i32_w]
            rfl
          refine one_ (i := 14) (N := some 160) #[true, true, true, true, true, true, true, true, true, true, true, true, true, true, true, true, false, false, false, false, false, false, false, false, false, false, false, false, false, false, false, false, false, false, false, false] rfl rfl (by kernel_rfl) (by decide) (fun K hK => ?_)
          refine goes_ Tryd.func14 (by kernel_rfl) rfl #[.pointer (some ⟨g, 0, none⟩)] (by rfl) rfl rfl (by simp only [List.map_toArray, List.map_cons, List.map_nil]; rfl) ?_
          with_reducible refine (HFr.out _ HR8.out).mono ?_
          rintro e wr14 ⟨rfl, hb14⟩
          refine ⟨_, rfl, ?_⟩
          have HR14 := Lib.hid (HR8.out.under hb14)
          clear hb14
          have t14 := HAt.out _ HR14.out
          refine hK.out _ _ (t14) (fun hHeld => ?_)
          clear hK K
          refine norm_ (a' := ?_) ?_ ?_
          rotate_left
          · show Act.put _ (some 160) _ = _
            simp only [Act.put, List.setIfInBounds_toArray, List.set_cons_zero, List.set_cons_succ, i64_w, i32_w]
            rfl
          refine one_ (i := 16) (N := some 162) #[true, true, true, true, true, true, true, true, true, true, true, true, true, true, true, true, true, false, false, false, false, false, false, false, false, false, false, false, false, false, false, false, false, false, false, false] rfl rfl (by kernel_rfl) (by decide) (fun K hK => ?_)
          refine goes_ Tryd.func28 (by kernel_rfl) rfl #[.pointer (some ⟨p, 0, none⟩)] (by rfl) rfl rfl (by simp only [List.map_toArray, List.map_cons, List.map_nil]; rfl) ?_
          with_reducible refine (HFq.out _ HR14.out).mono ?_
          rintro e wr16 ⟨rfl, hb16⟩
          refine ⟨_, rfl, ?_⟩
          have HR16 := Lib.hid (HR14.out.under hb16)
          clear hb16
          have t16 := HAt.out _ HR16.out
          refine hK.out _ _ (t16) (fun hHeld => ?_)
          clear hK K
          refine norm_ (a' := ?_) ?_ ?_
          rotate_left
          · show Act.put _ (some 162) _ = _
            simp only [Act.put, List.setIfInBounds_toArray, List.set_cons_zero, List.set_cons_succ, i64_w, i32_w]
            rfl
          refine pure_ (i := 17) (N := some 163) (v := ?_) (a' := ?_) #[true, true, true, true, true, true, true, true, true, true, true, true, true, true, true, true, true, true, false, false, false, false, false, false, false, false, false, false, false, false, false, false, false, false, false, false] rfl rfl (by kernel_rfl) (fun _ _ _ h => h) (Or.inl ⟨by rfl, ?_⟩) ?_ ?_
          rotate_left
          · intro w'
            go_simp
            with_reducible rfl
          rotate_left
          · simp only [Act.put, List.setIfInBounds_toArray, List.set_cons_zero, List.set_cons_succ, i64_w, i32_w]
            rfl
          refine pure_ (i := 18) (N := some 164) (v := ?_) (a' := ?_) #[true, true, true, true, true, true, true, true, true, true, true, true, true, true, true, true, true, true, true, false, false, false, false, false, false, false, false, false, false, false, false, false, false, false, false, false] rfl rfl (by kernel_rfl) (fun _ _ _ h => h) (Or.inl ⟨by rfl, ?_⟩) ?_ ?_
          rotate_left
          · intro w'
            go_simp
            with_reducible rfl
          rotate_left
          · simp only [Act.put, List.setIfInBounds_toArray, List.set_cons_zero, List.set_cons_succ, i64_w, i32_w]
            rfl
          refine pure_ (i := 19) (N := some 165) (v := ?_) (a' := ?_) #[true, true, true, true, true, true, true, true, true, true, true, true, true, true, true, true, true, true, true, true, false, false, false, false, false, false, false, false, false, false, false, false, false, false, false, false] rfl rfl (by kernel_rfl) (fun _ _ _ h => h) (Or.inl ⟨by rfl, ?_⟩) ?_ ?_
          rotate_left
          · intro w'
            go_simp
            with_reducible rfl
          rotate_left
          · simp only [Act.put, List.setIfInBounds_toArray, List.set_cons_zero, List.set_cons_succ, i64_w, i32_w]
            rfl
          refine pure_ (i := 20) (N := some 166) (v := ?_) (a' := ?_) #[true, true, true, true, true, true, true, true, true, true, true, true, true, true, true, true, true, true, true, true, true, false, false, false, false, false, false, false, false, false, false, false, false, false, false, false] rfl rfl (by kernel_rfl) (fun _ _ _ h => h) (Or.inl ⟨by rfl, ?_⟩) ?_ ?_
          rotate_left
          · intro w'
            go_simp
            with_reducible rfl
          rotate_left
          · simp only [Act.put, List.setIfInBounds_toArray, List.set_cons_zero, List.set_cons_succ, i64_w, i32_w]
            rfl
          refine pure_ (i := 21) (N := some 167) (v := ?_) (a' := ?_) #[true, true, true, true, true, true, true, true, true, true, true, true, true, true, true, true, true, true, true, true, true, true, false, false, false, false, false, false, false, false, false, false, false, false, false, false] rfl rfl (by kernel_rfl) (fun _ _ _ h => h) (Or.inl ⟨by rfl, ?_⟩) ?_ ?_
          rotate_left
          · intro w'
            go_simp
            with_reducible rfl
          rotate_left
          · simp only [Act.put, List.setIfInBounds_toArray, List.set_cons_zero, List.set_cons_succ, i64_w, i32_w]
            rfl
          refine pure_ (i := 24) (N := some 170) (v := ?_) (a' := ?_) #[true, true, true, true, true, true, true, true, true, true, true, true, true, true, true, true, true, true, true, true, true, true, false, false, true, false, false, false, false, false, false, false, false, false, false, false] rfl rfl (by kernel_rfl) (fun _ _ _ h => h) (Or.inl ⟨by rfl, ?_⟩) ?_ ?_
          rotate_left
          · intro w'
            go_simp
            with_reducible rfl
          rotate_left
          · simp only [Act.put, List.setIfInBounds_toArray, List.set_cons_zero, List.set_cons_succ, i64_w, i32_w]
            rfl
          refine pure_ (i := 25) (N := some 171) (v := ?_) (a' := ?_) #[true, true, true, true, true, true, true, true, true, true, true, true, true, true, true, true, true, true, true, true, true, true, false, false, true, true, false, false, false, false, false, false, false, false, false, false] rfl rfl (by kernel_rfl) (fun _ _ _ h => h) (Or.inl ⟨by rfl, ?_⟩) ?_ ?_
          rotate_left
          · intro w'
            go_simp
            with_reducible rfl
          rotate_left
          · simp only [Act.put, List.setIfInBounds_toArray, List.set_cons_zero, List.set_cons_succ, i64_w, i32_w]
            rfl
          refine take_ (i := 22) (N := some 168) (v := ?_) (a' := ?_) #[true, true, true, true, true, true, true, true, true, true, true, true, true, true, true, true, true, true, true, true, true, true, true, false, true, true, false, false, false, false, false, false, false, false, false, false] rfl rfl (by kernel_rfl) (fun _ _ _ h => h) (Or.inl ⟨by rfl, ?_⟩) hHeld ?_ ?_
          rotate_left
          · intro w' s0
            go_simp
            with_reducible rfl
          rotate_left
          · simp only [Act.put, List.setIfInBounds_toArray, List.set_cons_zero, List.set_cons_succ, i64_w, i32_w]
            rfl
          refine take_ (i := 26) (N := some 172) (v := ?_) (a' := ?_) #[true, true, true, true, true, true, true, true, true, true, true, true, true, true, true, true, true, true, true, true, true, true, true, false, true, true, true, false, false, false, false, false, false, false, false, false] rfl rfl (by kernel_rfl) (fun _ _ _ h => h) (Or.inl ⟨by rfl, ?_⟩) hHeld ?_ ?_
          rotate_left
          · intro w' s0
            go_simp
            with_reducible rfl
          rotate_left
          · simp only [Act.put, List.setIfInBounds_toArray, List.set_cons_zero, List.set_cons_succ, i64_w, i32_w]
            rfl
          refine one_ (i := 23) (N := some 169) #[true, true, true, true, true, true, true, true, true, true, true, true, true, true, true, true, true, true, true, true, true, true, true, true, true, true, true, false, false, false, false, false, false, false, false, false] rfl rfl (by kernel_rfl) (by decide) (fun K hK => ?_)
          refine goes_ Tryd.func16 (by kernel_rfl) rfl #[.pointer (some ⟨g, 0, none⟩), .int .i64 xn] (by rfl) rfl rfl (by simp only [List.map_toArray, List.map_cons, List.map_nil]; rfl) ?_
          with_reducible refine (HHs.out _ HR16.out).mono ?_
          rintro e wr23 ⟨rfl, hb23⟩
          refine ⟨_, rfl, ?_⟩
          have HR23 := Lib.hid (HR16.out.under hb23)
          clear hb23
          have t23 := HAt.out _ HR23.out
          refine hK.out _ _ (t23) (fun hHeld => ?_)
          clear hK K
          refine norm_ (a' := ?_) ?_ ?_
          rotate_left
          · show Act.put _ (some 169) _ = _
            simp only [Act.put, List.setIfInBounds_toArray, List.set_cons_zero, List.set_cons_succ, i64_w, i32_w]
            rfl
          refine one_ (i := 27) (N := some 173) #[true, true, true, true, true, true, true, true, true, true, true, true, true, true, true, true, true, true, true, true, true, true, true, true, true, true, true, true, false, false, false, false, false, false, false, false] rfl rfl (by kernel_rfl) (by decide) (fun K hK => ?_)
          refine goes_ Tryd.func29 (by kernel_rfl) rfl #[.pointer (some ⟨p, 0, none⟩), .int .i64 xn] (by rfl) rfl rfl (by simp only [List.map_toArray, List.map_cons, List.map_nil]; rfl) ?_
          with_reducible refine (HHq.out _ HR23.out).mono ?_
          rintro e wr27 ⟨rfl, hb27⟩
          refine ⟨_, rfl, ?_⟩
          have HR27 := Lib.hid (HR23.out.under hb27)
          clear hb27
          have t27 := HAt.out _ HR27.out
          refine hK.out _ _ (t27) (fun hHeld => ?_)
          clear hK K
          refine norm_ (a' := ?_) ?_ ?_
          rotate_left
          · show Act.put _ (some 173) _ = _
            simp only [Act.put, List.setIfInBounds_toArray, List.set_cons_zero, List.set_cons_succ, i64_w, i32_w]
            rfl
          refine pure_ (i := 28) (N := some 174) (v := ?_) (a' := ?_) #[true, true, true, true, true, true, true, true, true, true, true, true, true, true, true, true, true, true, true, true, true, true, true, true, true, true, true, true, true, false, false, false, false, false, false, false] rfl rfl (by kernel_rfl) (fun _ _ _ h => h) (Or.inl ⟨by rfl, ?_⟩) ?_ ?_
          rotate_left
          · intro w'
            go_simp
            with_reducible rfl
          rotate_left
          · simp only [Act.put, List.setIfInBounds_toArray, List.set_cons_zero, List.set_cons_succ, i64_w, i32_w]
            rfl
          refine pure_ (i := 29) (N := some 175) (v := ?_) (a' := ?_) #[true, true, true, true, true, true, true, true, true, true, true, true, true, true, true, true, true, true, true, true, true, true, true, true, true, true, true, true, true, true, false, false, false, false, false, false] rfl rfl (by kernel_rfl) (fun _ _ _ h => h) (Or.inl ⟨by rfl, ?_⟩) ?_ ?_
          rotate_left
          · intro w'
            go_simp
            with_reducible rfl
          rotate_left
          · simp only [Act.put, List.setIfInBounds_toArray, List.set_cons_zero, List.set_cons_succ, i64_w, i32_w]
            rfl
          refine pure_ (i := 30) (N := some 176) (v := ?_) (a' := ?_) #[true, true, true, true, true, true, true, true, true, true, true, true, true, true, true, true, true, true, true, true, true, true, true, true, true, true, true, true, true, true, true, false, false, false, false, false] rfl rfl (by kernel_rfl) (fun _ _ _ h => h) (Or.inl ⟨by rfl, ?_⟩) ?_ ?_
          rotate_left
          · intro w'
            go_simp
            with_reducible rfl
          rotate_left
          · simp only [Act.put, List.setIfInBounds_toArray, List.set_cons_zero, List.set_cons_succ, i64_w, i32_w]
            rfl
          refine pure_ (i := 31) (N := some 177) (v := ?_) (a' := ?_) #[true, true, true, true, true, true, true, true, true, true, true, true, true, true, true, true, true, true, true, true, true, true, true, true, true, true, true, true, true, true, true, true, false, false, false, false] rfl rfl (by kernel_rfl) (fun _ _ _ h => h) (Or.inl ⟨by rfl, ?_⟩) ?_ ?_
          rotate_left
          · intro w'
            go_simp
            with_reducible rfl
          rotate_left
          · simp only [Act.put, List.setIfInBounds_toArray, List.set_cons_zero, List.set_cons_succ, i64_w, i32_w]
            rfl
          refine pure_ (i := 32) (N := some 178) (v := ?_) (a' := ?_) #[true, true, true, true, true, true, true, true, true, true, true, true, true, true, true, true, true, true, true, true, true, true, true, true, true, true, true, true, true, true, true, true, true, false, false, false] rfl rfl (by kernel_rfl) (fun _ _ _ h => h) (Or.inl ⟨by rfl, ?_⟩) ?_ ?_
          rotate_left
          · intro w'
            go_simp
            with_reducible rfl
          rotate_left
          · simp only [Act.put, List.setIfInBounds_toArray, List.set_cons_zero, List.set_cons_succ, i64_w, i32_w]
            rfl
          refine one_ (i := 33) (N := some 179) #[true, true, true, true, true, true, true, true, true, true, true, true, true, true, true, true, true, true, true, true, true, true, true, true, true, true, true, true, true, true, true, true, true, true, false, false] rfl rfl (by kernel_rfl) (by decide) (fun K hK => ?_)
          refine goes_ Tryd.func23 (by kernel_rfl) rfl #[.slice Ao Kn co, .slice P Kn cx] (by rfl) rfl rfl (by simp only [List.map_toArray, List.map_cons, List.map_nil]; rfl) ?_
          with_reducible refine (HSm.out _ HR27.out).mono ?_
          rintro e wr33 ⟨rfl, hb33⟩
          refine ⟨_, rfl, ?_⟩
          have HR33 := Lib.hid (HR27.out.under hb33)
          clear hb33
          have t33 := HAt.out _ HR33.out
          refine hK.out _ _ (t33) (fun hHeld => ?_)
          clear hK K
          refine norm_ (a' := ?_) ?_ ?_
          rotate_left
          · show Act.put _ (some 179) _ = _
            simp only [Act.put, List.setIfInBounds_toArray, List.set_cons_zero, List.set_cons_succ, i64_w, i32_w]
            rfl
          refine pure_ (i := 34) (N := some 180) (v := ?_) (a' := ?_) #[true, true, true, true, true, true, true, true, true, true, true, true, true, true, true, true, true, true, true, true, true, true, true, true, true, true, true, true, true, true, true, true, true, true, true, false] rfl rfl (by kernel_rfl) (fun _ _ _ h => h) (Or.inl ⟨by rfl, ?_⟩) ?_ ?_
          rotate_left
          · intro w'
            go_simp
            with_reducible rfl
          rotate_left
          · simp only [Act.put, List.setIfInBounds_toArray, List.set_cons_zero, List.set_cons_succ, i64_w, i32_w]
            rfl
          refine pure_ (i := 35) (N := some 181) (v := ?_) (a' := ?_) #[true, true, true, true, true, true, true, true, true, true, true, true, true, true, true, true, true, true, true, true, true, true, true, true, true, true, true, true, true, true, true, true, true, true, true, true] rfl rfl (by kernel_rfl) (fun _ _ _ h => h) (Or.inl ⟨by rfl, ?_⟩) ?_ ?_
          rotate_left
          · intro w'
            go_simp
            with_reducible rfl
          rotate_left
          · simp only [Act.put, List.setIfInBounds_toArray, List.set_cons_zero, List.set_cons_succ, i64_w, i32_w]
            rfl
          refine done_ (by kernel_rfl) ?_
          have HRz := Lib.hid HR33.out
          clear hHeld t8 t14 t16 t23 t27 t33
          have hnx : wrap64 ((i : Int) + 1) = (i : Int) + 1 := by have := Hlt.out; clear z1 z2 z3 z4; unfold wrap64; omega
          go_wp2
          go_roundw
          case rel => exact ⟨i + 1, g, A, c, f, ws, B, c', ll, by have := Hlt.out; omega, by first | rfl | (rw [hnx]; rfl), rfl, ⟨HRz.out.ps⟩⟩
          case measure => have h1 := Hlt.out; first | (rw [hnx]; simp [intOf]; omega) | (simp [intOf]; omega)
      · have HTi := Lib.hid (HT.out.below HPi.out.below HT.out.lt)
        by_cases h1 : i < N
        · have hd := decide_eq_true (show (i : Int) < (N : Int) by omega)
          have hdn := decide_eq_true h1
          have hd2 := decide_eq_false (show ¬ (i : Int) < 25 by omega)
          have hd2n := decide_eq_false (show ¬ i < 25 by omega)
          clear hlt hi h1
          go_wp2_with fail
          refine (HW.out _ HTi.out).mono ?_; rintro e w5 ⟨rfl, hb5⟩
          have HB5 := Lib.hid (HPi.out.under hb5).below
          clear hb5
          go_wp2
          go_ret
          exact ⟨rfl, HB5.out⟩
        · have hd := decide_eq_false (show ¬ (i : Int) < (N : Int) by omega)
          have hdn := decide_eq_false h1
          clear hlt hi h1
          go_wp2_with fail
          refine (HW.out _ HTi.out).mono ?_; rintro e w5 ⟨rfl, hb5⟩
          have HB5 := Lib.hid (HPi.out.under hb5).below
          clear hb5
          go_wp2
          go_ret
          exact ⟨rfl, HB5.out⟩
end Go.Proofs.YtdjjmmndfbffcaaDoor.FM
