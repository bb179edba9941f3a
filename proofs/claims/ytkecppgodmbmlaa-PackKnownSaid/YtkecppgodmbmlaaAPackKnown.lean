/- The own texts that the statement PackKnown leans on: Kind, KindMay, Codec, CodecF, BRdr, BRdr2, BStr, BPut, BOwn, PkChunk, PkMay, PkMap, RunsP, RunsG, PkP, PkOps, Each, RunsW, PkInv, PkPut, PkZero, PkSet, PkPlain, PkGetP, Rep. -/
import Derived.Test.YtkecppgodmbmlaaChecked
import Derived.Test.YtkecppgodmbmlaaWMore
import Derived.Lib.Hide
import Derived.Deep.MidRow
import Derived.Deep.WholeRow
import Derived.Deep.Upon
import Derived.Lib.SlBuf
import Derived.Outline
import Derived.RowKit
import Derived.Laws.BitsLemmas
import Derived.Test.YtkecppgodmbmlaaPPackBackx1
import Derived.Test.YtkecppgodmbmlaaWEqStruct
import Derived.Maps.OwnSet
import Derived.MapKept
import Derived.RangeFuncNested
import Derived.RangeFuncBound
import Derived.RangeFuncCalls
import Derived.RangeFuncLeaves
import Derived.Shelf.Abstract
import Derived.Shelf.RegionOpen
import Derived.WalkKit
import Derived.OwnWalkIn
import Derived.TacticsInMore
import Derived.LoopNIn
import Derived.LoopIn
import Derived.RangeFuncFrom
import Derived.Lib.MakeNoZero
import Derived.Laws.CopyOwn
import Derived.Laws.Entries
namespace Go.Proofs.Ytkecppgodmbmlaa.PK
open Go.RowKit Go.Proofs.YtkecppgodmbmlaaW.PrintWords Go.Proofs.YtkecppgodmbmlaaW.PrintLast Go.Proofs.YtkecppgodmbmlaaW.PrintMore
set_option linter.unusedVariables false
set_option linter.unusedSimpArgs false
abbrev Pr := Int × Int
def lv (k : Int) : Pr := if k = 11 then (1, 15) else if k = 12 then (0, 3) else if k = 13 then (0, 7) else if k = 14 then (0, 1) else (0, 0)
def mayK (p : Pr) : Bool := decide (p.1 < 15) && (decide ((lv p.1).1 ≤ p.2) && decide (p.2 ≤ (lv p.1).2))
theorem sub_range {w : World} {b : Nat} {cs l : List Value} (h : w.rangeAt b 0 cs) (o n : Nat) (hl : (cs.drop o).take n = l) : w.rangeAt b o l := fun j v hv => by
  rw [← hl, List.getElem?_take] at hv
  split at hv
  · rw [List.getElem?_drop] at hv
    have := h (o + j) v hv
    rwa [Nat.zero_add] at this
  · cases hv
theorem there_new (w : World) (cs : Array Value) (t : TypeId) (n : Nat) (hn : n = cs.size) : (w.alloc (.cells cs t)).there w.heap.size 0 n := fun j hj => by
  have hb := blk_new w (.cells cs t)
  have h1 := blk_cell hb j
  rw [Nat.zero_add, h1, blk_frozen hb j, Array.getElem?_eq_getElem (by omega)]
  exact ⟨rfl, rfl⟩
theorem there_at (w : World) (cs : Array Value) (t : TypeId) (n b : Nat) (hb : b = w.heap.size) (hn : n = cs.size) : (w.alloc (.cells cs t)).there b 0 n := hb ▸ there_new w cs t n hn
def tab : Array Value := #[.string { data := #[97, 105, 114] }, .int .u8 13, .int .u8 0, .int .u8 0, .string { data := #[98, 101, 100, 114, 111, 99, 107] }, .int .u8 0, .int .u8 0, .int .u8 0, .string { data := #[115, 116, 111, 110, 101] }, .int .u8 2, .int .u8 0, .int .u8 0, .string { data := #[115, 111, 105, 108] }, .int .u8 2, .int .u8 0, .int .u8 0, .string { data := #[115, 97, 110, 100] }, .int .u8 18, .int .u8 0, .int .u8 0, .string { data := #[103, 114, 97, 118, 101, 108] }, .int .u8 18, .int .u8 0, .int .u8 0, .string { data := #[119, 111, 111, 100] }, .int .u8 34, .int .u8 0, .int .u8 0, .string { data := #[108, 101, 97, 118, 101, 115] }, .int .u8 34, .int .u8 0, .int .u8 0, .string { data := #[97, 115, 104] }, .int .u8 18, .int .u8 0, .int .u8 0, .string { data := #[103, 108, 97, 115, 115] }, .int .u8 3, .int .u8 0, .int .u8 0, .string { data := #[109, 111, 118, 101, 114] }, .int .u8 0, .int .u8 0, .int .u8 0, .string { data := #[116, 111, 114, 99, 104] }, .int .u8 13, .int .u8 1, .int .u8 15, .string { data := #[112, 108, 97, 110, 116] }, .int .u8 45, .int .u8 0, .int .u8 3, .string { data := #[119, 97, 116, 101, 114] }, .int .u8 5, .int .u8 0, .int .u8 7, .string { data := #[102, 105, 114, 101] }, .int .u8 13, .int .u8 0, .int .u8 1]
theorem rows_info : (Try.prog.info? 87).map (·.size) = some 60 := by kernel_rfl
theorem row_info : (Try.prog.info? 71).map (·.size) = some 4 := by kernel_rfl
theorem tab_one : tab.all (·.oneCell') = true := by decide +kernel
theorem tab_store {ops : Array Oper} {rest : List Oper} {t0 t1 t2 t4 t5 t6 t7 t8 t9 t10 t11 t12 t13 t14 t15 t16 t17 t18 t20 t21 t22 t23 t24 t25 t26 : Value} {w : World} {Q : Exit → Act → World → Prop} {ty : TypeId} {p : String} {af : Array Edge} {b : Nat}
    (ht : w.there b 0 60) (h : ∀ (u4 u5 u6 u7 u8 u9 u10 u11 u12 u13 u14 u15 u16 u17 u18 u19 : Value) (W : World), RowKit.Hid (W = w.setCells b 0 tab.toList) → wpList Try.prog ops Q rest { tmps := #[t0, t1, t2, .pointer (some ⟨b, 0, none⟩), u4, u5, u6, u7, u8, u9, u10, u11, u12, u13, u14, u15, u16, u17, u18, u19, t20, t21, t22, t23, t24, t25, t26], defers := [] } W) :
    wpList Try.prog ops Q ({ dst := none, op := .store 87 (.tmp 3) (.tmp 19), type := ty, pos := p, after := af, guard := none } :: rest) { tmps := #[t0, t1, t2, .pointer (some ⟨b, 0, none⟩), t4, t5, t6, t7, t8, t9, t10, t11, t12, t13, t14, t15, t16, t17, t18, .agg tab, t20, t21, t22, t23, t24, t25, t26], defers := [] } w :=
  wpList_store_mid rfl 87 (.tmp 3) (.tmp 19) rfl b 0 tab rfl rfl ht rows_info tab_one (h _ _ _ _ _ _ _ _ _ _ _ _ _ _ _ _ _ (Lib.hid rfl))
set_option maxHeartbeats 4000000 in
set_option maxRecDepth 100000 in
theorem of_calls (k : Int) (h0 : 0 ≤ k) (h1 : k < 256) (w : World) :
    Calls Try.prog 29 #[.int .u8 k] w fun e w' => (∃ (nm : ByteArray) (is : Int), e = .returned (.agg #[.string nm, .int .u8 is, .int .u8 (lv k).1, .int .u8 (lv k).2]) ∧ (nm.toList != ([] : List UInt8)) = decide (k < 15)) ∧ Below w.heap.size w w' := by
  by_cases hk : k < 15
  · have hd := decide_eq_true hk
    go_enter Try.func29, Try.ntmps29
    go_upto_region 3 with (refine tab_store (b := w.heap.size + 1) (there_at (w.alloc _) _ _ 60 (w.heap.size + 1) (by simp) (by rfl)) ?_; intro u4 u5 u6 u7 u8 u9 u10 u11 u12 u13 u14 u15 u16 u17 u18 u19 W1 hW)
    have hA : W1.heap[w.heap.size]? = some (.cells #[.string { data := #[] }, .int .u8 0, .int .u8 0, .int .u8 0] 71 (0, 0)) := by
      rw [hW.out, World.heap_setCells_other _ _ _ _ (by simp; omega) (by simp)]
      exact blk_below (blk_new w _) (below_alloc (Below.refl _ _) _)
    have hB : Below w.heap.size w W1 := by
      rw [hW.out]
      exact Lib.below_setCells _ (by simp) _ _ (below_alloc (below_alloc (Below.refl _ _) _) _)
    have hR : W1.rangeAt (w.heap.size + 1) 0 tab.toList := by
      rw [hW.out]
      exact World.rangeAt_setCells_same _ _ 0 _ (there_at (w.alloc _) _ _ 60 (w.heap.size + 1) (by simp) (by rfl))
    have hrow : ∃ (nm : ByteArray) (is : Int), W1.rangeAt (w.heap.size + 1) (k.toNat * 4) [.string nm, .int .u8 is, .int .u8 (lv k).1, .int .u8 (lv k).2] ∧ (nm.toList != ([] : List UInt8)) = true := by
      obtain rfl | rfl | rfl | rfl | rfl | rfl | rfl | rfl | rfl | rfl | rfl | rfl | rfl | rfl | rfl : k = 0 ∨ k = 1 ∨ k = 2 ∨ k = 3 ∨ k = 4 ∨ k = 5 ∨ k = 6 ∨ k = 7 ∨ k = 8 ∨ k = 9 ∨ k = 10 ∨ k = 11 ∨ k = 12 ∨ k = 13 ∨ k = 14 := by omega
      all_goals exact ⟨_, _, sub_range hR _ 4 rfl, by decide +kernel⟩
    obtain ⟨nm, is, hrw, hnm⟩ := hrow
    clear hR hW
    have c0 : W1.cell? ⟨w.heap.size + 1, k.toNat * 4, none⟩ = some (.string nm) := hrw 0 _ rfl
    have c1 := hrw 1 _ rfl
    have c2 := hrw 2 _ rfl
    have c3 := hrw 3 _ rfl
    have p1 : (0 ≤ k) = True := eq_true h0
    have p2 : (k < 15) = True := eq_true hk
    have a0 := blk_cell hA 0
    have a1 := blk_cell hA 1
    have a2 := blk_cell hA 2
    have a3 := blk_cell hA 3
    have f0 := blk_frozen hA 0
    have f1 := blk_frozen hA 1
    have f2 := blk_frozen hA 2
    have f3 := blk_frozen hA 3
    simp only [List.getElem?_toArray, List.getElem?_cons_succ, List.getElem?_cons_zero] at a0 a1 a2 a3
    have HA := Lib.hid hA
    have HB := Lib.hid hB
    clear hrw hA hB
    go_wp2
    have g1 := blk_put HA.out 0 (.string nm) rfl
    have g2 := blk_put g1 1 (.int .u8 is) rfl
    have g3 := blk_put g2 2 (.int .u8 (lv k).1) rfl
    have g4 := blk_put g3 3 (.int .u8 (lv k).2) rfl
    refine bodyPost_ret (v := .agg #[.string nm, .int .u8 is, .int .u8 (lv k).1, .int .u8 (lv k).2]) (results_cell_row rfl _ _ w.heap.size 71 _ (0, 0) _ rfl g4 Try.underlying71 rfl row_info) rfl ?_
    exact ⟨⟨nm, is, rfl, by rw [hnm, hd]⟩, (((HB.out.setCell (p := ⟨w.heap.size, 0, none⟩) (Nat.le_refl _) _).setCell (p := ⟨w.heap.size, 1, none⟩) (Nat.le_refl _) _).setCell (p := ⟨w.heap.size, 2, none⟩) (Nat.le_refl _) _).setCell (p := ⟨w.heap.size, 3, none⟩) (Nat.le_refl _) _⟩
  · have hd := decide_eq_false hk
    have elv : lv k = (0, 0) := by unfold lv; rw [if_neg (by omega), if_neg (by omega), if_neg (by omega), if_neg (by omega)]
    rw [elv]
    clear hk elv
    go_enter Try.func29, Try.ntmps29
    go_upto_region 4 with (refine tab_store (b := w.heap.size + 1) (there_at (w.alloc _) _ _ 60 (w.heap.size + 1) (by simp) (by rfl)) ?_; intro u4 u5 u6 u7 u8 u9 u10 u11 u12 u13 u14 u15 u16 u17 u18 u19 W1 hW)
    have hA : W1.heap[w.heap.size]? = some (.cells #[.string { data := #[] }, .int .u8 0, .int .u8 0, .int .u8 0] 71 (0, 0)) := by
      rw [hW.out, World.heap_setCells_other _ _ _ _ (by simp; omega) (by simp)]
      exact blk_below (blk_new w _) (below_alloc (Below.refl _ _) _)
    have hB : Below w.heap.size w W1 := by
      rw [hW.out]
      exact Lib.below_setCells _ (by simp) _ _ (below_alloc (below_alloc (Below.refl _ _) _) _)
    have a0 := blk_cell hA 0
    have a1 := blk_cell hA 1
    have a2 := blk_cell hA 2
    have a3 := blk_cell hA 3
    have f0 := blk_frozen hA 0
    have f1 := blk_frozen hA 1
    have f2 := blk_frozen hA 2
    have f3 := blk_frozen hA 3
    simp only [List.getElem?_toArray, List.getElem?_cons_succ, List.getElem?_cons_zero] at a0 a1 a2 a3
    have HA := Lib.hid hA
    have HB := Lib.hid hB
    clear hA hB hW
    go_wp2
    have g1 := blk_put HA.out 0 (.string { data := #[] }) rfl
    have g2 := blk_put g1 1 (.int .u8 0) rfl
    have g3 := blk_put g2 2 (.int .u8 0) rfl
    have g4 := blk_put g3 3 (.int .u8 0) rfl
    refine bodyPost_ret (v := .agg #[.string { data := #[] }, .int .u8 0, .int .u8 0, .int .u8 0]) (results_cell_row rfl _ _ w.heap.size 71 _ (0, 0) _ rfl g4 Try.underlying71 rfl row_info) rfl ?_
    exact ⟨⟨_, 0, rfl, by rw [hd]; decide +kernel⟩, (((HB.out.setCell (p := ⟨w.heap.size, 0, none⟩) (Nat.le_refl _) _).setCell (p := ⟨w.heap.size, 1, none⟩) (Nat.le_refl _) _).setCell (p := ⟨w.heap.size, 2, none⟩) (Nat.le_refl _) _).setCell (p := ⟨w.heap.size, 3, none⟩) (Nat.le_refl _) _⟩
end Go.Proofs.Ytkecppgodmbmlaa.PK

namespace Go.Proofs.Ytkecppgodmbmlaa.PK
open Go.RowKit Go.Proofs.YtkecppgodmbmlaaW.PrintWords Go.Proofs.YtkecppgodmbmlaaW.PrintLast Go.Proofs.YtkecppgodmbmlaaW.PrintMore
set_option linter.unusedVariables false
set_option linter.unusedSimpArgs false
theorem may_calls (p : Pr) (h0 : 0 ≤ p.1) (h1 : p.1 < 256) (w : World) :
    Calls Try.prog 16 #[.agg #[.int .u8 p.1, .int .u8 p.2]] w fun e w' => e = .returned (.bool (mayK p)) ∧ Below w.heap.size w w' := by
  obtain ⟨k, l⟩ := p
  simp only at h0 h1
  have HO := Lib.hid (fun w => of_calls k h0 h1 w)
  have hm : mayK (k, l) = (decide (k < 15) && (decide ((lv k).1 ≤ l) && decide (l ≤ (lv k).2))) := rfl
  obtain ⟨⟨lo, hi⟩, hlv⟩ : ∃ q, lv k = q := ⟨_, rfl⟩
  rw [hlv] at HO hm
  rw [hm]
  clear hm hlv h0 h1
  cases hb : decide (k < 15)
  case false =>
    rw [hb] at HO
    clear hb
    go_enter Try.func16, Try.ntmps16
    go_wp2_with fail
    refine (HO.out _).mono ?_; rintro e w1 ⟨⟨nm, is, rfl, hnm⟩, hb1⟩
    have HA := blk_below (blk_new w (.cells #[.int .u8 k, .int .u8 l] 34)) hb1
    have HB := Lib.hid (below_step (below_alloc (Below.refl _ _) _) hb1)
    have hlt : w.heap.size < w1.heap.size := blk_lt HA
    have hne : ¬ w.heap.size = w1.heap.size := by omega
    have hem : nm.toList.isEmpty = true := by cases hc : nm.toList.isEmpty <;> simp_all
    clear hb1 hnm
    have a0 := blk_cell HA 0
    have a1 := blk_cell HA 1
    simp only [List.getElem?_toArray, List.getElem?_cons_succ, List.getElem?_cons_zero] at a0 a1
    clear HA
    go_wp2
    go_ret
    exact ⟨rfl, below_alloc HB.out _⟩
  case true =>
    rw [hb] at HO
    clear hb
    cases hl : decide (lo ≤ l)
    all_goals (try cases hh : decide (l ≤ hi))
    all_goals (
      go_enter Try.func16, Try.ntmps16
      go_wp2_with fail
      refine (HO.out _).mono ?_; rintro e w1 ⟨⟨nm, is, rfl, hnm⟩, hb1⟩
      have HA := blk_below (blk_new w (.cells #[.int .u8 k, .int .u8 l] 34)) hb1
      have HB := Lib.hid (below_step (below_alloc (Below.refl _ _) _) hb1)
      have hlt : w.heap.size < w1.heap.size := blk_lt HA
      have hne : ¬ w.heap.size = w1.heap.size := by omega
      have hem : nm.toList.isEmpty = false := by cases hc : nm.toList.isEmpty <;> simp_all
      clear hb1 hnm
      have a0 := blk_cell HA 0
      have a1 := blk_cell HA 1
      simp only [List.getElem?_toArray, List.getElem?_cons_succ, List.getElem?_cons_zero] at a0 a1
      clear HA
      go_wp2
      go_ret
      exact ⟨rfl, below_alloc HB.out _⟩)
end Go.Proofs.Ytkecppgodmbmlaa.PK

namespace Go.Proofs.Ytkecppgodmbmlaa.CD
set_option linter.unusedVariables false
set_option linter.unusedSimpArgs false

def Bytes (l : List Int) : Prop := ∀ x ∈ l, 0 ≤ x ∧ x < 256
theorem Bytes.nil : Bytes [] := fun _ h => by cases h
theorem Bytes.cons {c : Int} {l : List Int} (h : Bytes (c :: l)) : (0 ≤ c ∧ c < 256) ∧ Bytes l := ⟨h c (by simp), fun x hx => h x (by simp [hx])⟩
theorem Bytes.mk {c : Int} {l : List Int} (hc : 0 ≤ c ∧ c < 256) (h : Bytes l) : Bytes (c :: l) := fun x hx => by
  rcases List.mem_cons.1 hx with rfl | hx
  · exact hc
  · exact h x hx
theorem Bytes.append {l m : List Int} (h : Bytes l) (k : Bytes m) : Bytes (l ++ m) := fun x hx => by
  rcases List.mem_append.1 hx with hx | hx
  · exact h x hx
  · exact k x hx
theorem Bytes.left {l m : List Int} (h : Bytes (l ++ m)) : Bytes l := fun x hx => h x (List.mem_append_left _ hx)
theorem Bytes.right {l m : List Int} (h : Bytes (l ++ m)) : Bytes m := fun x hx => h x (List.mem_append_right _ hx)
theorem Bytes.drop {l : List Int} (h : Bytes l) (n : Nat) : Bytes (l.drop n) := fun x hx => h x (List.mem_of_mem_drop hx)
theorem Bytes.take {l : List Int} (h : Bytes l) (n : Nat) : Bytes (l.take n) := fun x hx => h x (List.mem_of_mem_take hx)

def numF : Nat → Nat → List Int
  | 0, n => [(n : Int)]
  | k + 1, n => if n < 128 then [(n : Int)] else ((n % 128 + 128 : Nat) : Int) :: numF k (n / 128)
def num (n : Nat) : List Int := numF 9 n
def decF : Nat → Nat → List Int → Nat × Nat
  | _, _, [] => (0, 0)
  | i, acc, c :: l => if (i = 9 ∧ c > 1) ∨ (i > 0 ∧ c = 0) then (0, 0) else if c < 128 then (acc + c.toNat * 128 ^ i, i + 1) else decF (i + 1) (acc + c.toNat % 128 * 128 ^ i) l
def dec (l : List Int) : Nat × Nat := decF 0 0 l

theorem numF_pos (k n : Nat) : 1 ≤ (numF k n).length := by cases k <;> simp [numF]; split <;> simp
theorem numF_le : ∀ (k n : Nat), (numF k n).length ≤ k + 1
  | 0, n => by simp [numF]
  | k + 1, n => by
    simp only [numF]
    split
    · simp
    · simp only [List.length_cons]
      have := numF_le k (n / 128)
      omega
theorem numF_small (k n : Nat) (h : n < 128) : numF k n = [(n : Int)] := by cases k <;> simp [numF, h]
theorem numF_big (k n : Nat) (h : 128 ≤ n) : numF (k + 1) n = ((n % 128 + 128 : Nat) : Int) :: numF k (n / 128) := by simp [numF, Nat.not_lt.2 h]
theorem pow_step (i : Nat) : 128 ^ (i + 1) = 128 * 128 ^ i := by rw [Nat.pow_succ, Nat.mul_comm]
theorem split_group (n p : Nat) : n % 128 * p + n / 128 * (128 * p) = n * p := by
  have h : n = 128 * (n / 128) + n % 128 := by omega
  calc n % 128 * p + n / 128 * (128 * p) = (128 * (n / 128) + n % 128) * p := by
        rw [Nat.add_mul, Nat.mul_comm 128 (n / 128), Nat.mul_assoc]; omega
    _ = n * p := by rw [← h]

theorem decF_num : ∀ (k i acc n : Nat) (rest : List Int), i + k = 9 → n * 128 ^ i < 18446744073709551616 → (0 < i → 0 < n) →
    decF i acc (numF k n ++ rest) = (acc + n * 128 ^ i, i + (numF k n).length)
  | 0, i, acc, n, rest, hi, hn, h0 => by
    obtain rfl : i = 9 := by omega
    have h1 : n ≤ 1 := by simp only [show (128 : Nat) ^ 9 = 9223372036854775808 by decide] at hn; omega
    have h2 := h0 (by omega)
    simp only [numF, List.cons_append, List.nil_append, decF]
    rw [if_neg (by omega), if_pos (by omega)]
    simp
  | k + 1, i, acc, n, rest, hi, hn, h0 => by
    by_cases h : n < 128
    · rw [numF_small _ _ h]
      simp only [List.cons_append, List.nil_append, decF]
      rw [if_neg (by omega), if_pos (by omega)]
      simp
    · rw [numF_big k n (by omega)]
      simp only [List.cons_append, decF]
      rw [if_neg (by omega), if_neg (by omega)]
      have e : ((((n % 128 + 128 : Nat) : Int)).toNat % 128) = n % 128 := by omega
      have hs := split_group n (128 ^ i)
      rw [e, decF_num k (i + 1) _ (n / 128) rest (by omega) (by rw [pow_step]; omega) (by omega), pow_step]
      simp only [List.length_cons, Prod.mk.injEq]
      omega
theorem dec_num (n : Nat) (rest : List Int) (hn : n < 18446744073709551616) : dec (num n ++ rest) = (n, (num n).length) := by
  unfold dec num
  rw [decF_num 9 0 0 n rest rfl (by simpa using hn) (by omega)]
  simp
theorem decF_back : ∀ (l : List Int) (i acc m k : Nat), Bytes l → i ≤ 9 → decF i acc l = (m, k) → k ≠ 0 →
    ∃ n rest, l = numF (9 - i) n ++ rest ∧ k = i + (numF (9 - i) n).length ∧ m = acc + n * 128 ^ i ∧ n * 128 ^ i < 18446744073709551616 ∧ (0 < i → 0 < n)
  | [], i, acc, m, k, hb, hi, h, hk => by
    simp only [decF, Prod.mk.injEq] at h
    omega
  | c :: l, i, acc, m, k, hb, hi, h, hk => by
    obtain ⟨hc, hl⟩ := hb.cons
    simp only [decF] at h
    by_cases h1 : (i = 9 ∧ c > 1) ∨ (i > 0 ∧ c = 0)
    · rw [if_pos h1] at h
      simp only [Prod.mk.injEq] at h
      omega
    · rw [if_neg h1] at h
      by_cases h2 : c < 128
      · rw [if_pos h2] at h
        simp only [Prod.mk.injEq] at h
        refine ⟨c.toNat, l, ?_, ?_, h.1.symm, ?_, by omega⟩
        · rw [numF_small _ _ (by omega), show ((c.toNat : Nat) : Int) = c by omega]
          rfl
        · rw [numF_small _ _ (by omega)]
          simp
          omega
        · by_cases h9 : i = 9
          · subst h9
            have : c.toNat ≤ 1 := by omega
            simp only [show (128 : Nat) ^ 9 = 9223372036854775808 by decide]
            omega
          · have h3 : 128 ^ i ≤ 128 ^ 8 := Nat.pow_le_pow_right (by decide) (by omega)
            have h4 : c.toNat * 128 ^ i ≤ 127 * 128 ^ 8 := Nat.mul_le_mul (by omega) h3
            simp only [show 127 * (128 : Nat) ^ 8 = 9151314442816847872 by decide] at h4
            omega
      · rw [if_neg h2] at h
        have h9 : i ≠ 9 := fun h9 => h1 (.inl ⟨h9, by omega⟩)
        obtain ⟨n, rest, e1, e2, e3, e4, e5⟩ := decF_back l (i + 1) _ m k hl (by omega) h hk
        have hn := e5 (by omega)
        have hs := split_group (128 * n + c.toNat % 128) (128 ^ i)
        have q1 : (128 * n + c.toNat % 128) % 128 = c.toNat % 128 := by omega
        have q2 : (128 * n + c.toNat % 128) / 128 = n := by omega
        rw [q1, q2] at hs
        rw [pow_step] at e3 e4
        refine ⟨128 * n + c.toNat % 128, rest, ?_, ?_, by omega, ?_, by omega⟩
        · rw [show 9 - i = (9 - (i + 1)) + 1 by omega, numF_big _ _ (by omega), q1, q2, e1, show ((c.toNat % 128 + 128 : Nat) : Int) = c by omega]
          rfl
        · rw [show 9 - i = (9 - (i + 1)) + 1 by omega, numF_big _ _ (by omega), q2, e2, List.length_cons]
          omega
        · -- what is added fits: all the lower groups together are below the next one's weight
          have h5 : n * (128 * 128 ^ i) + 127 * 128 ^ i < 18446744073709551616 := by
            have hi8 : i ≤ 8 := by omega
            have d : 18446744073709551616 = 2 * 128 ^ (8 - i) * (128 * 128 ^ i) := by
              have : 128 ^ (8 - i) * 128 ^ i = 128 ^ 8 := by rw [← Nat.pow_add]; congr 1; omega
              calc 18446744073709551616 = 2 * (128 * 128 ^ 8) := by decide
                _ = 2 * 128 ^ (8 - i) * (128 * 128 ^ i) := by rw [← this]; simp only [Nat.mul_assoc, Nat.mul_left_comm]
            have hp : 0 < 128 ^ i := Nat.pow_pos (by decide)
            rw [d] at e4
            have : n < 2 * 128 ^ (8 - i) := Nat.lt_of_mul_lt_mul_right e4
            have : (n + 1) * (128 * 128 ^ i) ≤ 2 * 128 ^ (8 - i) * (128 * 128 ^ i) := Nat.mul_le_mul_right _ this
            rw [← d, Nat.add_mul] at this
            omega
          have h6 : c.toNat % 128 * 128 ^ i ≤ 127 * 128 ^ i := Nat.mul_le_mul_right _ (by omega)
          omega
theorem dec_back (l : List Int) (hb : Bytes l) (m k : Nat) (h : dec l = (m, k)) (hk : k ≠ 0) : m < 18446744073709551616 ∧ k = (num m).length ∧ l = num m ++ l.drop k ∧ k ≤ l.length ∧ 1 ≤ k ∧ k ≤ 10 := by
  obtain ⟨n, rest, e1, e2, e3, e4, _⟩ := decF_back l 0 0 m k hb (by omega) h hk
  have hn : n = m := by rw [e3]; simp
  subst hn
  have h1 : k = (num n).length := by rw [e2]; simp [num]
  have h2 : l = num n ++ rest := e1
  refine ⟨by simpa using e4, h1, ?_, ?_, ?_, ?_⟩
  · rw [h1, h2, List.drop_left]
  · rw [h1, h2, List.length_append]; omega
  · rw [h1]; exact numF_pos _ _
  · rw [h1]; exact numF_le 9 n
theorem num_pos (n : Nat) : 1 ≤ (num n).length := numF_pos 9 n
theorem num_le (n : Nat) : (num n).length ≤ 10 := numF_le 9 n
theorem numF_bytes : ∀ (k i n : Nat), i + k = 9 → n * 128 ^ i < 18446744073709551616 → Bytes (numF k n)
  | 0, i, n, hi, hn => by
    obtain rfl : i = 9 := by omega
    have h1 : n ≤ 1 := by simp only [show (128 : Nat) ^ 9 = 9223372036854775808 by decide] at hn; omega
    exact Bytes.mk (by omega) Bytes.nil
  | k + 1, i, n, hi, hn => by
    by_cases h : n < 128
    · rw [numF_small _ _ h]
      exact Bytes.mk (by omega) Bytes.nil
    · rw [numF_big k n (by omega)]
      have hs := split_group n (128 ^ i)
      exact Bytes.mk (by omega) (numF_bytes k (i + 1) (n / 128) (by omega) (by rw [pow_step]; omega))
theorem num_bytes (n : Nat) (hn : n < 18446744073709551616) : Bytes (num n) := numF_bytes 9 0 n rfl (by simpa using hn)
end Go.Proofs.Ytkecppgodmbmlaa.CD

namespace Go.Proofs.Ytkecppgodmbmlaa.CF
open Go.RowKit Go.Proofs.YtkecppgodmbmlaaW.PrintWords Go.Proofs.YtkecppgodmbmlaaW.PrintLast Go.Proofs.YtkecppgodmbmlaaW.PrintMore Go.Proofs.Ytkecppgodmbmlaa.CD
set_option linter.unusedVariables false
set_option linter.unusedSimpArgs false

theorem wu64 (n : Int) : IntKind.u64.wrap n = n % 18446744073709551616 := by simp [IntKind.wrap, IntKind.bits, IntKind.signed]
theorem wu64_id (n : Int) (h0 : 0 ≤ n) (h1 : n < 18446744073709551616) : IntKind.u64.wrap n = n := by rw [wu64]; omega
theorem or128 (x : Nat) : bits .or .u8 ((x : Int) % 256) 128 = ((x % 128 + 128 : Nat) : Int) := by
  have h : ∀ a : Fin 256, a.val ||| 128 = a.val % 128 + 128 := by decide +kernel
  have e : ((x : Int) % 256) = ((x % 256 : Nat) : Int) := by omega
  rw [e, show (128 : Int) = ((128 : Nat) : Int) from rfl, (bits_nat .u8 8 (by decide) wraps_u8 (x % 256) 128 (by omega) (by decide)).2, h ⟨x % 256, by omega⟩]
  show ((x % 256 % 128 + 128 : Nat) : Int) = _
  omega
theorem and127 (x : Nat) (hx : x < 256) : bits .and .u8 (x : Int) 127 = ((x % 128 : Nat) : Int) := by
  have := bits_mask .u8 8 (by decide) wraps_u8 7 (by decide) (x : Int) (by omega) (by omega)
  rw [show (2 : Int) ^ 7 - 1 = 127 by decide, show (2 : Int) ^ 7 = 128 by decide] at this
  rw [this]; omega
theorem put_l0 : ∀ (k j n : Nat) (x : List Int), n < 128 ^ (k + 1) → x.length + k < 140737488355328 → k < j → PPackBack.bytes_Put.l0 j (n : Int) x = some (x ++ numF k n)
  | 0, j, n, x, hn, hx, hj => by
    obtain ⟨j, rfl⟩ : ∃ m, j = m + 1 := ⟨j - 1, by omega⟩
    simp only [PPackBack.bytes_Put.l0, numF]
    rw [if_neg (by omega), if_pos (by omega), show ((n : Int) % 256) = (n : Int) by omega]
  | k + 1, j, n, x, hn, hx, hj => by
    obtain ⟨j, rfl⟩ : ∃ m, j = m + 1 := ⟨j - 1, by omega⟩
    simp only [PPackBack.bytes_Put.l0]
    by_cases h : n < 128
    · rw [numF_small _ _ h, if_neg (by omega), if_pos (by omega), show ((n : Int) % 256) = (n : Int) by omega]
    · rw [numF_big k n (by omega), if_pos (by omega), if_pos (by omega), or128, show ((n : Int) / 128) = ((n / 128 : Nat) : Int) by omega]
      rw [put_l0 k j (n / 128) _ (by rw [Nat.pow_succ] at hn; omega) (by simp; omega) (by omega)]
      simp
theorem put_f (n : Nat) (l : List Int) (hn : n < 18446744073709551616) (hl : l.length < 140737488355000) : PPackBack.bytes_Put.f 12 l (n : Int) = some (l ++ num n) := by
  unfold PPackBack.bytes_Put.f
  simp only [Option.bind_some, List.length_nil, Nat.zero_add, List.nil_append]
  rw [if_pos (by omega)]
  exact put_l0 9 12 n l (by omega) (by omega) (by omega)

theorem or_shl (acc c i : Nat) (ha : acc < 128 ^ i) (hi : i ≤ 9) (hc : c % 128 * 128 ^ i < 18446744073709551616) :
    bits .or .u64 (acc : Int) (shl .u64 (IntKind.u64.wrap ((c % 128 : Nat) : Int)) (7 * (i : Int))) = ((acc + c % 128 * 128 ^ i : Nat) : Int) := by
  have hp : (128 : Nat) ^ i = 2 ^ (7 * i) := by rw [show (128 : Nat) = 2 ^ 7 by decide, ← Nat.pow_mul]
  have hlt : acc < 18446744073709551616 := by
    have : 128 ^ i ≤ 128 ^ 9 := Nat.pow_le_pow_right (by decide) hi
    simp only [show (128 : Nat) ^ 9 = 9223372036854775808 by decide] at this
    omega
  have e1 : shl .u64 (IntKind.u64.wrap ((c % 128 : Nat) : Int)) (7 * (i : Int)) = ((c % 128 * 128 ^ i : Nat) : Int) := by
    unfold shl
    rw [wu64_id ((c % 128 : Nat) : Int) (by omega) (by omega), show (7 * (i : Int)).toNat = 7 * i by omega, Nat.min_eq_left (by simp only [IntKind.bits]; omega)]
    rw [show ((c % 128 : Nat) : Int) * 2 ^ (7 * i) = ((c % 128 * 128 ^ i : Nat) : Int) by rw [hp]; simp]
    exact wu64_id _ (by omega) (by omega)
  rw [e1, (bits_nat .u64 64 (by decide) (fun n a b => wu64_id n a (by simpa using b)) acc (c % 128 * 128 ^ i) (by omega) (by omega)).2]
  congr 1
  rw [Nat.or_comm, hp, Nat.mul_comm, ← Nat.two_pow_add_eq_or_of_lt (by rw [← hp]; exact ha) (c % 128)]
  omega

def ints (p : Nat × Nat) : Int × Int := ((p.1 : Int), (p.2 : Int))
theorem number_l0 (L : List Int) (hL : Bytes L) (hlen : L.length ≤ 140737488355328) : ∀ (d : Nat) (k i acc : Nat), d = L.length - i → i ≤ L.length → i ≤ 9 → acc < 128 ^ i → 2 * d < k →
    PPackBack.bytes_number.l0 k (acc : Int) L (L.length : Int) (i : Int) = some (ints (decF i acc (L.drop i)))
  | 0, k, i, acc, hd, hi, h9, ha, hk => by
    obtain ⟨k, rfl⟩ : ∃ m, k = m + 1 := ⟨k - 1, by omega⟩
    simp only [PPackBack.bytes_number.l0]
    rw [if_neg (by omega), List.drop_eq_nil_of_le (by omega)]
    rfl
  | d + 1, k, i, acc, hd, hi, h9, ha, hk => by
    obtain ⟨k, rfl⟩ : ∃ m, k = m + 2 := ⟨k - 2, by omega⟩
    have hlt : i < L.length := by omega
    have hr : rd L (i : Int) = L[i] := by simp [rd, List.getD_eq_getElem?_getD, List.getElem?_eq_getElem hlt]
    obtain ⟨hc0, hc1⟩ := hL _ (List.getElem_mem hlt)
    obtain ⟨c, hc⟩ : ∃ c : Nat, L[i] = (c : Int) := ⟨L[i].toNat, by omega⟩
    rw [hc] at hc0 hc1 hr
    have q1 : (i : Int) < (L.length : Int) := by omega
    have q2 : 0 ≤ (i : Int) := by omega
    have q3 : (i : Int) = 9 → (i : Int) > 0 := by omega
    have F1 : (i : Int) = 9 → (c : Int) > 1 → (true = true ↔ (i = 9 ∧ (c : Int) > 1) ∨ (i > 0 ∧ (c : Int) = 0)) := fun a b => ⟨fun _ => by omega, fun _ => rfl⟩
    have F2 : (i : Int) = 9 → ¬ (c : Int) > 1 → (((c : Int) == 0) = true ↔ (i = 9 ∧ (c : Int) > 1) ∨ (i > 0 ∧ (c : Int) = 0)) := fun a b => by rw [beq_iff_eq]; omega
    have F3 : ¬ (i : Int) = 9 → (i : Int) > 0 → (((c : Int) == 0) = true ↔ (i = 9 ∧ (c : Int) > 1) ∨ (i > 0 ∧ (c : Int) = 0)) := fun a b => by rw [beq_iff_eq]; omega
    have F4 : ¬ (i : Int) = 9 → ¬ (i : Int) > 0 → (false = true ↔ (i = 9 ∧ (c : Int) > 1) ∨ (i > 0 ∧ (c : Int) = 0)) := fun a b => ⟨fun h => absurd h (by decide), fun h => by omega⟩
    have hw7 : wrap64 (7 * (i : Int)) = 7 * (i : Int) := by unfold wrap64; omega
    have hw1 : wrap64 ((i : Int) + 1) = ((i + 1 : Nat) : Int) := by unfold wrap64; omega
    have hdrop : L.drop i = (c : Int) :: L.drop (i + 1) := by rw [List.drop_eq_getElem_cons hlt, hc]
    have hj : ∀ b : Bool, (b = true ↔ (i = 9 ∧ (c : Int) > 1) ∨ (i > 0 ∧ (c : Int) = 0)) → PPackBack.bytes_number.j1 (k + 1) (acc : Int) (i : Int) (c : Int) L (L.length : Int) (i : Int) b = some (ints (decF i acc (L.drop i))) := by
      intro b hb
      simp only [PPackBack.bytes_number.j1, hw7, hw1]
      rw [hdrop]
      clear hw7 hw1 hr hdrop F1 F2 F3 F4
      simp only [decF]
      by_cases hbt : b = true
      · rw [if_pos hbt, if_pos (hb.1 hbt)]
        rfl
      · have hnot := fun h => hbt (hb.2 h)
        have hfit : c % 128 * 128 ^ i < 18446744073709551616 := by
          by_cases h9' : i = 9
          · have : c ≤ 1 := Nat.le_of_not_lt (fun h => hnot (.inl ⟨h9', by omega⟩))
            rw [h9', show (128 : Nat) ^ 9 = 9223372036854775808 by decide]; omega
          · have h3 : 128 ^ i ≤ 128 ^ 8 := Nat.pow_le_pow_right (by decide) (by omega)
            have h4 : c % 128 * 128 ^ i ≤ 127 * 128 ^ 8 := Nat.mul_le_mul (by omega) h3
            simp only [show 127 * (128 : Nat) ^ 8 = 9151314442816847872 by decide] at h4
            omega
        rw [if_neg hbt, if_neg hnot, if_pos (by omega), and127 c (by omega), or_shl acc c i ha h9 hfit]
        by_cases hlow : (c : Int) < 128
        · rw [if_pos hlow, if_pos hlow]
          have : c % 128 = c := by omega
          simp only [ints, this, Int.toNat_natCast]
        · rw [if_neg hlow, if_neg hlow]
          have h9' : i ≠ 9 := fun h => hnot (.inl ⟨h, by omega⟩)
          simp only [Int.toNat_natCast]
          refine number_l0 L hL hlen d k (i + 1) _ (by omega) (by omega) (by omega) ?_ (by omega)
          rw [pow_step]
          have : c % 128 * 128 ^ i ≤ 127 * 128 ^ i := Nat.mul_le_mul_right _ (by omega)
          omega
    simp only [PPackBack.bytes_number.l0]
    rw [if_pos q1, if_pos q2, if_pos q1, hr]
    by_cases a : (i : Int) = 9
    · rw [if_pos a]
      by_cases b : (c : Int) > 1
      · rw [if_pos b]; exact hj true (F1 a b)
      · rw [if_neg b, if_pos (q3 a)]; exact hj _ (F2 a b)
    · rw [if_neg a]
      by_cases b : (i : Int) > 0
      · rw [if_pos b]; exact hj _ (F3 a b)
      · rw [if_neg b]; exact hj false (F4 a b)
theorem number_f (L : List Int) (hL : Bytes L) (hlen : L.length ≤ 140737488355328) : PPackBack.bytes_number.f (2 * L.length + 1) L = some (((dec L).1 : Int), ((dec L).2 : Int)) := by
  have := number_l0 L hL hlen L.length (2 * L.length + 1) 0 0 (by omega) (by omega) (by omega) (by simp) (by omega)
  rw [List.drop_zero] at this
  exact this
end Go.Proofs.Ytkecppgodmbmlaa.CF

namespace Go.Proofs.Ytkecppgodmbmlaa.BR
open Go.RowKit Go.Proofs.YtkecppgodmbmlaaW.PrintWords Go.Proofs.YtkecppgodmbmlaaW.PrintLast Go.Proofs.YtkecppgodmbmlaaW.PrintMore Go.Proofs.Ytkecppgodmbmlaa.CD
set_option linter.unusedVariables false
set_option linter.unusedSimpArgs false

theorem gset {a w : World} {b : Nat} (h : a.grownBy w (some b)) (i : Nat) (v : Value) : a.grownBy (w.setCell ⟨b, i, none⟩ v) (some b) :=
  ⟨h.os, h.tape, h.output, Nat.le_trans h.size (by simp [World.setCell]), fun k hk hne => (Below.heap_setCell w _ _ k (by intro e; exact hne (by rw [e]))).trans (h.block k hk hne)⟩
theorem gdrewN {a w : World} {row : Option Nat} (h : a.grownBy w row) (n : Nat) : a.grownBy (w.drewN n) row := ⟨h.os, h.tape, h.output, h.size, h.block⟩
theorem gdrew {a w : World} {row : Option Nat} (h : a.grownBy w row) : a.grownBy w.drew row := ⟨h.os, h.tape, h.output, h.size, h.block⟩
theorem gofBelow {w w1 : World} {row : Option Nat} (h : Below w.heap.size w w1) : w.grownBy w1 row := grown_of_below h row
theorem belowg {B : Nat} {a w w' : World} {g : Nat} (h : Below B a w) (hg : w.grownBy w' (some g)) (hB : B ≤ w.heap.size) (hr : B ≤ g) : Below B a w' := h.grown hg hB (fun k hk => by cases hk; exact hr)

structure Rdr (w : World) (g : Nat) (xs : List Int) (br : Bool) : Prop where
  cell : ∃ (A : Option Addr) (c : Nat), w.heap[g]? = some (.cells #[.slice A xs.length c, .bool true, .bool br] 92 (0, 0)) ∧ xs.length ≤ c ∧ ReadsInt w .u8 A xs.length xs ∧ (∀ ad, A = some ad → 0 < xs.length → ad.block ≠ g)
  small : xs.length ≤ 140737488355328
  bytes : Bytes xs
theorem Rdr.lt {w : World} {g : Nat} {xs : List Int} {br : Bool} (h : Rdr w g xs br) : g < w.heap.size := by
  obtain ⟨A, c, hb, _⟩ := h.cell
  exact blk_lt hb
theorem reads_kept {w w' : World} {A : Option Addr} {n : Nat} {xs : List Int} (h : ReadsInt w .u8 A n xs) (hk : ∀ ad, A = some ad → 0 < n → ad.block < w.heap.size → w'.heap[ad.block]? = w.heap[ad.block]?) : ReadsInt w' .u8 A n xs :=
  ⟨h.1, h.2.1, fun hn => by
    obtain ⟨ad, e, hc⟩ := h.2.2 hn
    refine ⟨ad, e, fun j hj => ?_⟩
    have hj' := hc j hj
    have hl := World.block_lt_of_cell? w _ hj'
    have hbk : (ad.add j).block = ad.block := by unfold Addr.add; split <;> rfl
    rw [hbk] at hl
    have e2 := hk ad e hn hl
    have : w'.cell? (ad.add j) = w.cell? (ad.add j) := by unfold World.cell?; rw [hbk, e2]
    rw [this]; exact hj'⟩
theorem Rdr.kept {w w' : World} {g : Nat} {xs : List Int} {br : Bool} (h : Rdr w g xs br) {row : Option Nat} (hg : w.grownBy w' row) (hne : some g ≠ row) (hdata : ∀ ad : Addr, some ad.block = row → ∀ A c, w.heap[g]? = some (.cells #[.slice A xs.length c, .bool true, .bool br] 92 (0, 0)) → 0 < xs.length → A ≠ some ad) : Rdr w' g xs br := by
  obtain ⟨A, c, hb, hc, hr, hn⟩ := h.cell
  refine ⟨⟨A, c, (hg.block g (blk_lt hb) hne).trans hb, hc, reads_kept hr fun ad e h0 hl => hg.block _ hl (fun e2 => hdata ad e2 A c hb h0 e), hn⟩, h.small, h.bytes⟩
theorem Rdr.below {w w' : World} {g : Nat} {xs : List Int} {br : Bool} (h : Rdr w g xs br) (hb : Below w.heap.size w w') : Rdr w' g xs br :=
  h.kept (gofBelow (row := none) hb) (by simp) (fun ad e => by cases e)
theorem Rdr.drewN {w : World} {g : Nat} {xs : List Int} {br : Bool} (h : Rdr w g xs br) (n : Nat) : Rdr (w.drewN n) g xs br := h.below (pw_below_drewN (Below.refl _ _) n)
theorem Rdr.breaks {w : World} {g : Nat} {xs : List Int} {br : Bool} (h : Rdr w g xs br) : Rdr (w.setCell ⟨g, 2, none⟩ (.bool true)) g xs true := by
  obtain ⟨A, c, hb, hc, hr, hn⟩ := h.cell
  refine ⟨⟨A, c, by rw [blk_set hb]; rfl, hc, reads_kept hr fun ad e h0 hl => Below.heap_setCell w _ _ _ (hn ad e h0), hn⟩, h.small, h.bytes⟩
theorem cutFrom (A : Option Addr) (xs : List Int) (c m : Nat) (hm : m ≤ xs.length) (hc : xs.length ≤ c) :
    ∃ A' : Option Addr, (∀ W : World, (Instr.slice 26 (.slice A xs.length c) (some (.int .i64 (m : Int))) none none).run Try.prog W = .ok (.slice A' (xs.length - m) (c - m)) W) ∧
      (∀ w, ReadsInt w .u8 A xs.length xs → ReadsInt w .u8 A' (xs.drop m).length (xs.drop m)) ∧ (∀ ad', A' = some ad' → ∃ ad, A = some ad ∧ ad.block = ad'.block) := by
  obtain ⟨i0, hi, hz0, hz1, hz2⟩ := info_parts (show (Try.prog.info? 5).map (fun i => (i.zero, i.size, i.bytes)) = some (some (.int .u8 0), 1, 1) by kernel_rfl)
  refine ⟨if c = m then A else A.map (·.add m), fun W => ?_, fun w h => ?_, fun ad' e => ?_⟩
  · have := cut_from (P := Try.prog) 26 5 .i64 Try.underlying26 hi 1 hz1 A xs.length c (m : Int) (by omega) (by omega) W
    simpa using this
  · have := h.drop_ m hm hc
    rw [List.length_drop]
    exact this
  · split at e
    · exact ⟨ad', e, rfl⟩
    · cases A with
      | none => simp at e
      | some ad =>
        simp only [Option.map_some, Option.some.injEq] at e
        refine ⟨ad, rfl, ?_⟩
        rw [← e]
        unfold Addr.add
        split <;> rfl
theorem Rdr.moves {w : World} {g : Nat} {xs : List Int} {br : Bool} (h : Rdr w g xs br) {A : Option Addr} {c : Nat} (hb : w.heap[g]? = some (.cells #[.slice A xs.length c, .bool true, .bool br] 92 (0, 0))) {m : Nat} (hm : m ≤ xs.length) {A' : Option Addr}
    (hr : ∀ w, ReadsInt w .u8 A xs.length xs → ReadsInt w .u8 A' (xs.drop m).length (xs.drop m)) (ha : ∀ ad', A' = some ad' → ∃ ad, A = some ad ∧ ad.block = ad'.block) :
    Rdr (w.setCell ⟨g, 0, none⟩ (.slice A' (xs.length - m) (c - m))) g (xs.drop m) br := by
  obtain ⟨A2, c2, hb2, hc, hrd, hn⟩ := h.cell
  rw [hb2] at hb
  simp only [Option.some.injEq, Obj.cells.injEq, Array.mk.injEq, List.cons.injEq, Value.slice.injEq, and_true, true_and] at hb
  obtain ⟨rfl, rfl⟩ := hb
  have hl : (xs.drop m).length = xs.length - m := List.length_drop
  have hne : ∀ ad', A' = some ad' → 0 < (xs.drop m).length → ad'.block ≠ g := fun ad' e h0 => by
    obtain ⟨ad, e1, e2⟩ := ha ad' e
    rw [← e2]
    exact hn ad e1 (by omega)
  refine ⟨⟨A', c2 - m, by rw [blk_set hb2, hl]; rfl, by omega, reads_kept (hr w hrd) fun ad e h0 hlt => Below.heap_setCell w _ _ _ (hne ad e h0), hne⟩, by have := h.small; omega, h.bytes.drop m⟩

abbrev St := List Int × Bool
def rNum (s : St) : Nat × St := if s.2 then (0, s) else if (dec s.1).2 = 0 then (0, (s.1, true)) else ((dec s.1).1, (s.1.drop (dec s.1).2, false))

theorem fine_calls (g : Nat) (xs : List Int) (br : Bool) (w : World) (h : Rdr w g xs br) :
    Calls Try.prog 42 #[.pointer (some ⟨g, 0, none⟩)] w fun e w' => e = .returned (.bool (!br)) ∧ Drawn0 w w' := by
  obtain ⟨A, c, hb, hc, hr, hne⟩ := h.cell
  have h1 := blk_cell hb 1
  have h2 := blk_cell hb 2
  simp only [List.getElem?_toArray, List.getElem?_cons_succ, List.getElem?_cons_zero] at h1 h2
  clear hb hc hr hne h
  go_enter Try.func42, Try.ntmps42
  go_wp2
  go_ret
  exact ⟨rfl, by repeat (first | exact Drawn0.refl _ | apply Drawn0.step)⟩
theorem number_calls (A : Option Addr) (c : Nat) (xs : List Int) (w : World) (hr : ReadsInt w .u8 A xs.length xs) (hc : xs.length ≤ c) (hb : Bytes xs) (hs : xs.length ≤ 140737488355328) :
    Calls Try.prog 43 #[.slice A xs.length c] w fun e w' => e = .returned (.tuple #[.int .u64 ((dec xs).1 : Int), .int .i64 ((dec xs).2 : Int)]) ∧ Drawn0 w w' :=
  PPackBack.bytes_number.calls _ A c xs _ _ w (Kd.C_of_reads (d := (0 : Int)) (h1 := fun _ => rfl) hr) hc (CF.number_f xs hb hs)
theorem num_broken (g : Nat) (xs : List Int) (w : World) (h : Rdr w g xs true) :
    Calls Try.prog 32 #[.pointer (some ⟨g, 0, none⟩)] w fun e w' => e = .returned (.int .u64 0) ∧ Rdr w' g xs true ∧ w.grownBy w' (some g) := by
  have H := Lib.hid h
  clear h
  go_enter Try.func32, Try.ntmps32
  go_wp2_with (go_at_call 42; refine (fine_calls g xs true _ H.out).mono ?_; rintro e w' ⟨rfl, ⟨nd, rfl⟩⟩)
  go_ret
  exact ⟨rfl, H.out.drewN _, gdrewN (World.grownBy.refl _ _) _⟩
theorem num_no (g : Nat) (xs : List Int) (w : World) (h : Rdr w g xs false) (hk : (dec xs).2 = 0) :
    Calls Try.prog 32 #[.pointer (some ⟨g, 0, none⟩)] w fun e w' => e = .returned (.int .u64 0) ∧ Rdr w' g xs true ∧ w.grownBy w' (some g) := by
  have H := Lib.hid h
  obtain ⟨A, c, hb, hc, hr, hne⟩ := h.cell
  have h0 := blk_cell hb 0
  have h2 := blk_cell hb 2
  have f2 := blk_frozen hb 2
  simp only [List.getElem?_toArray, List.getElem?_cons_succ, List.getElem?_cons_zero] at h0 h2
  have HN0 := fun w' (hd : ReadsInt w' .u8 A xs.length xs) => number_calls A c xs w' hd hc h.bytes h.small
  rw [hk] at HN0
  have HN := Lib.hid HN0
  have Hr := Lib.hid hr
  clear hb hc hr hne h hk HN0
  go_enter Try.func32, Try.ntmps32
  go_wp2_with (first | (go_at_call 42; refine (fine_calls g xs false _ H.out).mono ?_; rintro e w' ⟨rfl, ⟨nd, rfl⟩⟩) | (go_at_call 43; refine (HN.out _ (Hr.out.below (pw_below_drewN (Below.refl _ _) _))).mono ?_; rintro e w' ⟨rfl, ⟨nd2, rfl⟩⟩))
  go_ret
  exact ⟨rfl, (H.out.drewN _).breaks, gset (gdrewN (World.grownBy.refl _ _) _) _ _⟩
set_option maxRecDepth 100000 in
theorem num_ok (g : Nat) (xs : List Int) (w : World) (h : Rdr w g xs false) (m k : Nat) (hd : dec xs = (m, k)) (hk : k ≠ 0) :
    Calls Try.prog 32 #[.pointer (some ⟨g, 0, none⟩)] w fun e w' => e = .returned (.int .u64 (m : Int)) ∧ Rdr w' g (xs.drop k) false ∧ w.grownBy w' (some g) := by
  have H := Lib.hid h
  obtain ⟨A, c, hb, hc, hr, hne⟩ := h.cell
  have hkl := (dec_back xs h.bytes m k hd hk).2.2.2.1
  have h0 := blk_cell hb 0
  have f0 := blk_frozen hb 0
  simp only [List.getElem?_toArray, List.getElem?_cons_succ, List.getElem?_cons_zero] at h0
  obtain ⟨A', hcut, hrd, hA'⟩ := cutFrom A xs c k hkl hc
  have HB := Lib.hid hb
  have HM := Lib.hid hrd
  have HA := Lib.hid hA'
  have HN0 := fun w' (hd : ReadsInt w' .u8 A xs.length xs) => number_calls A c xs w' hd hc h.bytes h.small
  rw [hd] at HN0
  have HN := Lib.hid HN0
  have Hr := Lib.hid hr
  have hk0 : (((k : Nat) : Int) == 0) = false := by rw [beq_eq_false_iff_ne]; omega
  have hk1 : ((k : Nat) : Int) ≤ (xs.length : Int) := by omega
  have Hkl := Lib.hid hkl
  clear hb hc hr hne h hd hk HN0 hrd hA' hkl
  go_enter Try.func32, Try.ntmps32
  go_wp2_with (first | (go_at_call 42; refine (fine_calls g xs false _ H.out).mono ?_; rintro e w' ⟨rfl, ⟨nd, rfl⟩⟩) | (go_at_call 43; refine (HN.out _ (Hr.out.below (pw_below_drewN (Below.refl _ _) _))).mono ?_; rintro e w' ⟨rfl, ⟨nd2, rfl⟩⟩))
  go_ret
  exact ⟨rfl, (H.out.drewN _).moves (blk_drewN HB.out _) Hkl.out HM.out HA.out, gset (gdrewN (World.grownBy.refl _ _) _) _ _⟩
theorem num_calls (g : Nat) (xs : List Int) (br : Bool) (w : World) (h : Rdr w g xs br) :
    Calls Try.prog 32 #[.pointer (some ⟨g, 0, none⟩)] w fun e w' => e = .returned (.int .u64 ((rNum (xs, br)).1 : Int)) ∧ Rdr w' g (rNum (xs, br)).2.1 (rNum (xs, br)).2.2 ∧ w.grownBy w' (some g) := by
  unfold rNum
  cases br with
  | true => exact num_broken g xs w h
  | false =>
    simp only [Bool.false_eq_true, if_false]
    by_cases hk : (dec xs).2 = 0
    · rw [if_pos hk]; exact num_no g xs w h hk
    · rw [if_neg hk]; exact num_ok g xs w h _ _ rfl hk
end Go.Proofs.Ytkecppgodmbmlaa.BR

namespace Go.Proofs.Ytkecppgodmbmlaa.BR
open Go.RowKit Go.Proofs.YtkecppgodmbmlaaW.PrintWords Go.Proofs.YtkecppgodmbmlaaW.PrintLast Go.Proofs.YtkecppgodmbmlaaW.PrintMore Go.Proofs.Ytkecppgodmbmlaa.CD
set_option linter.unusedVariables false
set_option linter.unusedSimpArgs false
theorem infoU8 : (Try.prog.info? 5).map (fun i => (i.zero, i.size, i.bytes)) = some (some (.int .u8 0), 1, 1) := by kernel_rfl
def OB (w : World) (base : Nat) (v : Value) (l : List Int) : Prop := w.ownsRow base 5 1 v l.length (nums .u8 l)
theorem OB.of_R {w : World} {base : Nat} {ok : Nat → Prop} {v : Value} {l : List Int} (h : Kd.R (Kd.int .u8) 5 w base ok v l) : OB w base v l := Kd.own_of_R h
theorem OB.slice {w : World} {base : Nat} {v : Value} {l : List Int} (h : OB w base v l) : ∃ A c, v = .slice A l.length c ∧ l.length ≤ c ∧ ReadsInt w .u8 A l.length l := by
  obtain ⟨A, c, rfl, hr⟩ := own_reads (k := .u8) h
  exact ⟨A, c, rfl, own_le h, hr⟩
theorem OB.below {w w1 : World} {base : Nat} {v : Value} {l : List Int} (h : OB w base v l) (hb : Below w.heap.size w w1) : OB w1 base v l := pw_own_below h hb
theorem OB.reads {w : World} {base : Nat} {A : Option Addr} {c : Nat} {l : List Int} (h : OB w base (.slice A l.length c) l) : ReadsInt w .u8 A l.length l := by
  obtain ⟨A', c', he, hc, hr⟩ := h.slice
  injection he with e1 e2 e3
  subst e1
  exact hr
theorem OB.empty (W : World) (base : Nat) (hb : base ≤ W.heap.size) : OB (W.alloc (.cells #[] 5)) base (.slice (some ⟨W.heap.size, 0, none⟩) 0 0) [] := own_lit W base 5 .u8 [] hb (by simp)

theorem Rdr.new {w1 : World} {A1 : Option Addr} {c1 : Nat} {xs : List Int} (hr : ReadsInt w1 .u8 A1 xs.length xs) (hc : xs.length ≤ c1) (hb : Bytes xs) (hs : xs.length ≤ 140737488355328) :
    Rdr (w1.alloc (.cells #[.slice A1 xs.length c1, .bool true, .bool false] 92)) w1.heap.size xs false := by
  refine ⟨⟨A1, c1, blk_new _ _, hc, hr.below (below_alloc (Below.refl _ _) _), fun ad e h0 e2 => ?_⟩, hs, hb⟩
  obtain ⟨ad', e', hcell⟩ := hr.2.2 h0
  rw [e] at e'
  obtain rfl := Option.some.inj e'
  have := World.block_lt_of_cell? w1 _ (hcell 0 h0)
  have hbk : (ad.add 0).block = ad.block := by unfold Addr.add; split <;> rfl
  omega
set_option maxHeartbeats 400000 in
set_option maxRecDepth 100000 in
theorem new_calls (A : Option Addr) (c : Nat) (xs : List Int) (w : World) (hr : ReadsInt w .u8 A xs.length xs) (hc : xs.length ≤ c) (hb : Bytes xs) (hs : xs.length ≤ 140737488355328) :
    Calls Try.prog 31 #[.slice A xs.length c] w fun e w' => ∃ g, e = .returned (.pointer (some ⟨g, 0, none⟩)) ∧ w.heap.size ≤ g ∧ Rdr w' g xs false ∧ Below w.heap.size w w' := by
  have Hr := Lib.hid hr
  clear hr
  go_enter Try.func31, Try.ntmps31
  go_wp2_with (at_builtin; refine print_append_row (w0 := w) w.heap.size rfl (.tmp 3) (.tmp 4) 26 5 .u8 1 rfl Try.underlying26 infoU8 (by decide) (.slice (some ⟨w.heap.size, 0, none⟩) 0 0) [] xs A xs.length c rfl rfl ?own ?reads ?below ?size ?len ?_; (case own => exact OB.empty w _ (Nat.le_refl _)); (case reads => exact Hr.out.below (below_alloc (Below.refl _ _) _)); (case below => exact below_alloc (Below.refl _ _) _); (case size => simp); (case len => simp; omega); intro v1 w1 hown hb1 hg hat; rw [List.nil_append] at hown; obtain ⟨A1, c1, rfl, hc1, hr1⟩ := OB.slice hown; have HO := Lib.hid hown; have HB := Lib.hid hb1; have HR := Lib.hid hr1; clear hown hb1 hr1 hg hat)
  go_ret
  exact ⟨w1.heap.size, rfl, HB.out.size, Rdr.new HR.out hc1 hb hs, below_alloc HB.out _⟩
def rTake (s : St) (n : Int) : List Int × St := if s.2 then ([], s) else if n < 0 ∨ n > (s.1.length : Int) then ([], (s.1, true)) else (s.1.take n.toNat, (s.1.drop n.toNat, false))
set_option maxRecDepth 100000 in
theorem take_broken (g : Nat) (xs : List Int) (n : Int) (w : World) (h : Rdr w g xs true) :
    Calls Try.prog 39 #[.pointer (some ⟨g, 0, none⟩), .int .i64 n] w fun e w' => ∃ v, e = .returned v ∧ OB w' w.heap.size v [] ∧ Rdr w' g xs true ∧ w.grownBy w' (some g) := by
  have H := Lib.hid h
  clear h
  go_enter Try.func39, Try.ntmps39
  go_wp2_with (go_at_call 42; refine (fine_calls g xs true _ H.out).mono ?_; rintro e w' ⟨rfl, ⟨nd, rfl⟩⟩)
  go_ret
  exact ⟨_, rfl, own_nil _ _ _ _, H.out.drewN _, gdrewN (World.grownBy.refl _ _) _⟩
set_option maxRecDepth 100000 in
theorem take_no (g : Nat) (xs : List Int) (n : Int) (w : World) (h : Rdr w g xs false) (hn : n < 0 ∨ n > (xs.length : Int)) :
    Calls Try.prog 39 #[.pointer (some ⟨g, 0, none⟩), .int .i64 n] w fun e w' => ∃ v, e = .returned v ∧ OB w' w.heap.size v [] ∧ Rdr w' g xs true ∧ w.grownBy w' (some g) := by
  have H := Lib.hid h
  obtain ⟨A, c, hb, hc, hr, hne⟩ := h.cell
  have h0 := blk_cell hb 0
  have h2 := blk_cell hb 2
  have f2 := blk_frozen hb 2
  simp only [List.getElem?_toArray, List.getElem?_cons_succ, List.getElem?_cons_zero] at h0 h2
  clear hb hc hr hne h
  by_cases h1 : n < 0
  · have hd : decide (n < 0) = true := decide_eq_true h1
    clear hn
    go_enter Try.func39, Try.ntmps39
    go_wp2_with (go_at_call 42; refine (fine_calls g xs false _ H.out).mono ?_; rintro e w' ⟨rfl, ⟨nd, rfl⟩⟩)
    go_ret
    exact ⟨_, rfl, own_nil _ _ _ _, (H.out.drewN _).breaks, gset (gdrewN (World.grownBy.refl _ _) _) _ _⟩
  · have hd : decide (n < 0) = false := decide_eq_false h1
    have hd2 : decide ((xs.length : Int) < n) = true := decide_eq_true (by omega)
    clear hn
    go_enter Try.func39, Try.ntmps39
    go_wp2_with (go_at_call 42; refine (fine_calls g xs false _ H.out).mono ?_; rintro e w' ⟨rfl, ⟨nd, rfl⟩⟩)
    go_ret
    exact ⟨_, rfl, own_nil _ _ _ _, (H.out.drewN _).breaks, gset (gdrewN (World.grownBy.refl _ _) _) _ _⟩
theorem OB.set {w1 : World} {base : Nat} {v : Value} {l : List Int} (h : OB w1 base v l) {g : Nat} (hg : g < base) (i : Nat) (u : Value) : OB (w1.setCell ⟨g, i, none⟩ u) base v l :=
  own_setCell h (fun e => by have := own_base h g e.symm; omega) u
set_option maxHeartbeats 400000 in
set_option maxRecDepth 100000 in
theorem take_ok (g : Nat) (xs : List Int) (n : Int) (w : World) (h : Rdr w g xs false) (hn0 : 0 ≤ n) (hn1 : n ≤ (xs.length : Int)) :
    Calls Try.prog 39 #[.pointer (some ⟨g, 0, none⟩), .int .i64 n] w fun e w' => ∃ v, e = .returned v ∧ OB w' w.heap.size v (xs.take n.toNat) ∧ Rdr w' g (xs.drop n.toNat) false ∧ w.grownBy w' (some g) := by
  have H := Lib.hid h
  obtain ⟨k, rfl⟩ := Int.eq_ofNat_of_zero_le hn0
  rw [Int.toNat_natCast]
  have hkl : k ≤ xs.length := by omega
  obtain ⟨A, c, hb, hc, hr, hne⟩ := h.cell
  have hg := blk_lt hb
  have h0 := blk_cell hb 0
  have f0 := blk_frozen hb 0
  simp only [List.getElem?_toArray, List.getElem?_cons_succ, List.getElem?_cons_zero] at h0
  obtain ⟨A', hcut, hrd, hA'⟩ := cutFrom A xs c k hkl hc
  have hto := cut_to (P := Try.prog) 26 5 .i64 Try.underlying26 (info_parts infoU8).choose_spec.1 A xs.length c (k : Int) (by omega) (by omega) hc
  simp only [Int.toNat_natCast] at hto
  have hrt := hr.take_ k hkl
  obtain ⟨ys, hys⟩ : ∃ ys, ys = xs.take k := ⟨_, rfl⟩
  rw [← hys] at hrt ⊢
  have hyl : ys.length ≤ 140737488355328 := by rw [hys, List.length_take]; have := h.small; omega
  have hyk : k ≤ 140737488355328 := by have := h.small; omega
  have Hb := Lib.hid hb
  have HM := Lib.hid hrd
  have HA := Lib.hid hA'
  have Hr := Lib.hid hrt
  have Hkl := Lib.hid hkl
  have h0a : ∀ (n : Nat) (o : Obj), ((w.drewN n).alloc o).cell? ⟨g, 0, none⟩ = some (.slice A xs.length c) := fun n o => pw_cell_below (below_alloc (pw_below_drewN (Below.refl _ _) _) _) h0
  have hd : decide ((k : Int) < 0) = false := decide_eq_false (by omega)
  have hd2 : decide (xs.length < k) = false := decide_eq_false (by omega)
  clear hb hc hr hne h hrd hA' hkl hn0 hn1 hrt hys
  go_enter Try.func39, Try.ntmps39
  go_wp2_with (first | (go_at_call 42; refine (fine_calls g xs false _ H.out).mono ?_; rintro e w' ⟨rfl, ⟨nd, rfl⟩⟩) | (at_builtin; refine print_append_row (w0 := w) w.heap.size rfl (.tmp 23) (.tmp 29) 26 5 .u8 1 rfl Try.underlying26 infoU8 (by decide) (.slice (some ⟨w.heap.size, 0, none⟩) 0 0) [] ys A k c rfl rfl ?own ?reads ?below ?size ?len ?_; (case own => exact OB.empty _ _ (Nat.le_refl _)); (case reads => exact Hr.out.below (below_alloc (pw_below_drewN (Below.refl _ _) _) _)); (case below => exact below_alloc (pw_below_drewN (Below.refl _ _) _) _); (case size => simp); (case len => simp; omega); intro v1 w1 hown hb1 hg1 hat; rw [List.nil_append] at hown; obtain ⟨A1, c1, rfl, hc1, hr1⟩ := OB.slice hown; have HO := Lib.hid hown; have HB := Lib.hid hb1; have h0' := (hb1.cell (p := ⟨g, 0, none⟩) hg).trans h0; have f0' := (hb1.frozen (p := ⟨g, 0, none⟩) hg).trans f0; have Hb' := Lib.hid ((hb1.block g hg).trans Hb.out); clear hown hb1 hr1 hg1 hat))
  go_ret
  exact ⟨_, rfl, OB.set HO.out hg _ _, (H.out.below HB.out).moves Hb'.out Hkl.out HM.out HA.out, gset (gofBelow HB.out) _ _⟩
theorem take_calls (g : Nat) (xs : List Int) (br : Bool) (n : Int) (w : World) (h : Rdr w g xs br) :
    Calls Try.prog 39 #[.pointer (some ⟨g, 0, none⟩), .int .i64 n] w fun e w' => ∃ v, e = .returned v ∧ OB w' w.heap.size v (rTake (xs, br) n).1 ∧ Rdr w' g (rTake (xs, br) n).2.1 (rTake (xs, br) n).2.2 ∧ w.grownBy w' (some g) := by
  unfold rTake
  cases br with
  | true => exact take_broken g xs n w h
  | false =>
    simp only [Bool.false_eq_true, if_false]
    by_cases hn : n < 0 ∨ n > (xs.length : Int)
    · rw [if_pos hn]; exact take_no g xs n w h hn
    · rw [if_neg hn]; exact take_ok g xs n w h (by omega) (by omega)

theorem left_calls (g : Nat) (xs : List Int) (br : Bool) (w : World) (h : Rdr w g xs br) :
    Calls Try.prog 41 #[.pointer (some ⟨g, 0, none⟩)] w fun e w' => e = .returned (.int .i64 (xs.length : Int)) ∧ Drawn0 w w' := by
  obtain ⟨A, c, hb, hc, hr, hne⟩ := h.cell
  have h0 := blk_cell hb 0
  simp only [List.getElem?_toArray, List.getElem?_cons_succ, List.getElem?_cons_zero] at h0
  clear hb hc hr hne h
  go_enter Try.func41, Try.ntmps41
  go_wp2
  go_ret
  exact ⟨rfl, by repeat (first | exact Drawn0.refl _ | apply Drawn0.step)⟩
theorem err_calls (g : Nat) (xs : List Int) (br : Bool) (w : World) (h : Rdr w g xs br) :
    Calls Try.prog 33 #[.pointer (some ⟨g, 0, none⟩)] w fun e w' => e = .returned (.int .i64 (if br then 4 else 0)) ∧ Drawn0 w w' := by
  obtain ⟨A, c, hb, hc, hr, hne⟩ := h.cell
  have h1 := blk_cell hb 1
  have h2 := blk_cell hb 2
  simp only [List.getElem?_toArray, List.getElem?_cons_succ, List.getElem?_cons_zero] at h1 h2
  clear hb hc hr hne h
  cases br
  all_goals
    go_enter Try.func33, Try.ntmps33
    go_wp2
    go_ret
    exact ⟨rfl, by repeat (first | exact Drawn0.refl _ | apply Drawn0.step)⟩
end Go.Proofs.Ytkecppgodmbmlaa.BR

namespace Go.Proofs.Ytkecppgodmbmlaa.BS
open Go.RowKit Go.Proofs.YtkecppgodmbmlaaW.PrintWords Go.Proofs.YtkecppgodmbmlaaW.PrintLast Go.Proofs.YtkecppgodmbmlaaW.PrintMore Go.Proofs.Ytkecppgodmbmlaa.CD
set_option linter.unusedVariables false
set_option linter.unusedSimpArgs false
theorem bytes_bytesOf (s : ByteArray) : Bytes (bytesOf s) := fun x hx => by
  unfold bytesOf at hx
  obtain ⟨b, _, rfl⟩ := List.mem_map.1 hx
  have := b.toNat_lt
  omega
theorem bytesOf_str (l : List Int) (h : Bytes l) : bytesOf (strOfNums l) = l := by
  unfold bytesOf strOfNums
  rw [List.map_map]
  refine (List.map_congr_left (g := id) fun x hx => ?_).trans (List.map_id _)
  obtain ⟨h0, h1⟩ := h x hx
  simp only [Function.comp_apply, id]
  rw [UInt8.toNat_ofNat', Nat.mod_eq_of_lt (by omega)]
  omega
theorem str_inj {l m : List Int} (hl : Bytes l) (hm : Bytes m) (h : strOfNums l = strOfNums m) : l = m := by rw [← bytesOf_str l hl, h, bytesOf_str m hm]
theorem loop_eq (s : ByteArray) : ∀ (d i : Nat) (r : List UInt8), d = s.size - i → ByteArray.toList.loop s i r = r.reverse ++ s.data.toList.drop i := by
  intro d
  induction d with
  | zero =>
    intro i r h
    unfold ByteArray.toList.loop
    have : ¬ i < s.size := by omega
    rw [if_neg this, List.drop_eq_nil_of_le (by rw [Array.length_toList]; show s.size ≤ i; omega)]
    simp
  | succ d ih =>
    intro i r h
    unfold ByteArray.toList.loop
    have hi : i < s.size := by omega
    rw [if_pos hi, ih (i + 1) _ (by omega)]
    have hi' : i < s.data.toList.length := by rw [Array.length_toList]; exact hi
    rw [List.drop_eq_getElem_cons hi']
    simp [ByteArray.get!, hi]
theorem toList_eq (s : ByteArray) : s.toList = s.data.toList := by
  have := loop_eq s s.size 0 [] rfl
  simpa [ByteArray.toList] using this
theorem toList_inj {s t : ByteArray} (h : s.toList = t.toList) : s = t := by
  rw [toList_eq, toList_eq] at h
  exact ByteArray.ext (Array.toList_inj.1 h)
theorem beq_not {s t : ByteArray} (h : s ≠ t) : (s.toList == t.toList) = false := beq_eq_false_iff_ne.2 (fun e => h (toList_inj e))
end Go.Proofs.Ytkecppgodmbmlaa.BS

namespace Go.Proofs.Ytkecppgodmbmlaa.BP
open Go.RowKit Go.Proofs.YtkecppgodmbmlaaW.PrintWords Go.Proofs.YtkecppgodmbmlaaW.PrintLast Go.Proofs.YtkecppgodmbmlaaW.PrintMore Go.Proofs.Ytkecppgodmbmlaa.CD Go.Proofs.Ytkecppgodmbmlaa.BR
set_option linter.unusedVariables false
set_option linter.unusedSimpArgs false
theorem put_calls (A : Option Addr) (c : Nat) (l : List Int) (n : Nat) (w : World) (hr : ReadsInt w .u8 A l.length l) (hc : l.length ≤ c) (hn : n < 18446744073709551616) (hl : l.length < 140737488355000) :
    Calls Try.prog 23 #[.slice A l.length c, .int .u64 (n : Int)] w fun e w' => ∃ v, e = .returned v ∧ OB w' w.heap.size v (l ++ num n) ∧ Below w.heap.size w w' :=
  (PPackBack.bytes_Put.calls 12 A c l (n : Int) _ w (Kd.C_of_reads (d := (0 : Int)) (h1 := fun _ => rfl) hr) hc (CF.put_f n l hn hl)).mono fun e w' ⟨v, he, hR, hb⟩ => ⟨v, he, OB.of_R hR, hb⟩
end Go.Proofs.Ytkecppgodmbmlaa.BP

namespace Go.Proofs.Ytkecppgodmbmlaa.BR
open Go.RowKit Go.Proofs.YtkecppgodmbmlaaW.PrintWords Go.Proofs.YtkecppgodmbmlaaW.PrintLast Go.Proofs.YtkecppgodmbmlaaW.PrintMore
theorem OB.form {w : World} {base : Nat} {A : Option Addr} {n c : Nat} {l : List Int} (h : OB w base (.slice A n c) l) (hl : 0 < l.length) : ∃ g, A = some ⟨g, 0, none⟩ ∧ base ≤ g ∧ g < w.heap.size := by
  rcases h.2 with ⟨h', hn⟩ | ⟨g, cap, cur, h', hb, hh, _⟩
  · omega
  · injection h' with h'
    refine ⟨g, h', hb, ?_⟩
    have := World.ownsRow.lt h g (by rw [h']; rfl)
    exact this.2
theorem OB.at_ {W : World} {base g c : Nat} {l : List Int} (h : OB W base (.slice (some ⟨g, 0, none⟩) l.length c) l) (j : Nat) (hj : j < l.length) : W.cell? ⟨g, j, none⟩ = some (.int .u8 (rd l j)) ∧ W.frozen? ⟨g, j, none⟩ = false := own_at h (j : Int) (by omega) (by omega)
theorem OB.store {W : World} {base g c : Nat} {l : List Int} (h : OB W base (.slice (some ⟨g, 0, none⟩) l.length c) l) (j : Nat) (x : Int) :
    OB (W.setCell ⟨g, j, none⟩ (.int .u8 x)) base (.slice (some ⟨g, 0, none⟩) (l.set j x).length c) (l.set j x) := by
  have := (own_store h (j : Int) x).1
  simp only [OB, List.length_set]
  exact this
theorem OB.grown {w W : World} {base : Nat} {v : Value} {l : List Int} {g : Nat} (h : OB w base v l) (hg : w.grownBy W (some g)) (hf : v.ownBlock ≠ some g) : OB W base v l := by
  refine ⟨h.1, ?_⟩
  rcases h.2 with h' | ⟨b, cap, cur, hv, hb, hh, hr⟩
  · exact .inl h'
  · refine .inr ⟨b, cap, cur, hv, hb, ?_, hr⟩
    have hlt := World.ownsRow.lt h b (by rw [hv]; rfl)
    rw [hg.block b hlt.2 (fun e => hf (by rw [hv]; exact e))]
    exact hh
end Go.Proofs.Ytkecppgodmbmlaa.BR

namespace Go.Proofs.Ytkecppgodmbmlaa.PK
open Go.RowKit Go.Proofs.YtkecppgodmbmlaaW.PrintWords Go.Proofs.YtkecppgodmbmlaaW.PrintLast Go.Proofs.YtkecppgodmbmlaaW.PrintMore
set_option linter.unusedVariables false
set_option linter.unusedSimpArgs false
def P0 : Pr := (0, 0)
def flat (l : List Pr) : List Value := l.flatMap fun p => [.int .u8 p.1, .int .u8 p.2]
theorem flat_length : ∀ l : List Pr, (flat l).length = 2 * l.length
  | [] => rfl
  | p :: l => by
    have := flat_length l
    unfold flat at this ⊢
    rw [List.flatMap_cons, List.length_append, this]
    simp only [List.length_cons, List.length_nil]; omega
theorem flat_at : ∀ (l : List Pr) (i : Nat), i < l.length → (flat l)[2 * i]? = some (.int .u8 (l.getD i P0).1) ∧ (flat l)[2 * i + 1]? = some (.int .u8 (l.getD i P0).2)
  | p :: l, 0, _ => ⟨rfl, rfl⟩
  | p :: l, i + 1, h => by
    have ih := flat_at l i (by simpa using h)
    have e : flat (p :: l) = .int .u8 p.1 :: .int .u8 p.2 :: flat l := by unfold flat; rw [List.flatMap_cons]; rfl
    rw [e, show 2 * (i + 1) = 2 * i + 1 + 1 by omega, List.getElem?_cons_succ, List.getElem?_cons_succ, List.getElem?_cons_succ, List.getElem?_cons_succ]
    simpa using ih
def cells (C L : List Pr) (v : Value) : List Value := flat C ++ (flat L ++ [v])
structure Chunk (w : World) (g : Nat) (C L : List Pr) (v : Value) : Prop where
  blk : w.heap[g]? = some (.cells (cells C L v).toArray 46 (0, 0))
  lenC : C.length = 4096
  lenL : L.length = 4096
theorem cells_C (C L : List Pr) (v : Value) (hC : C.length = 4096) (i : Nat) (hi : i < 4096) : (cells C L v)[i * 2]? = some (.int .u8 (C.getD i P0).1) ∧ (cells C L v)[i * 2 + 1]? = some (.int .u8 (C.getD i P0).2) := by
  have h := flat_at C i (by omega)
  have hl := flat_length C
  unfold cells
  rw [List.getElem?_append_left (by omega), List.getElem?_append_left (by omega), Nat.mul_comm i 2]
  exact h
theorem cells_off (C L : List Pr) (v : Value) (hC : C.length = 4096) (hL : L.length = 4096) (j : Nat) (hj : j < 8192) : (cells C L v)[8192 + j]? = (flat L)[j]? := by
  have hl := flat_length C
  have hl2 := flat_length L
  unfold cells
  rw [List.getElem?_append_right (by omega), List.getElem?_append_left (by omega)]
  congr 1
  omega
theorem cells_L (C L : List Pr) (v : Value) (hC : C.length = 4096) (hL : L.length = 4096) (i : Nat) (hi : i < 4096) : (cells C L v)[8192 + i * 2]? = some (.int .u8 (L.getD i P0).1) ∧ (cells C L v)[8192 + i * 2 + 1]? = some (.int .u8 (L.getD i P0).2) := by
  have h := flat_at L i (by omega)
  rw [cells_off C L v hC hL (i * 2) (by omega), show 8192 + i * 2 + 1 = 8192 + (i * 2 + 1) by omega, cells_off C L v hC hL (i * 2 + 1) (by omega), Nat.mul_comm i 2]
  exact h
theorem cells_T (C L : List Pr) (v : Value) (hC : C.length = 4096) (hL : L.length = 4096) : (cells C L v)[16384]? = some v := by
  have hl := flat_length C
  have hl2 := flat_length L
  unfold cells
  rw [List.getElem?_append_right (by omega), List.getElem?_append_right (by omega), hl, hl2, hC, hL]
  rfl
section
variable {w w' : World} {g : Nat} {C L : List Pr} {v : Value}
theorem Chunk.lt (h : Chunk w g C L v) : g < w.heap.size := blk_lt h.blk
theorem Chunk.below (h : Chunk w g C L v) {b : Nat} (hb : Below b w w') (hg : g < b) : Chunk w' g C L v := ⟨(hb.block g hg).trans h.blk, h.lenC, h.lenL⟩
theorem Chunk.grown (h : Chunk w g C L v) {row : Option Nat} (hg : w.grownBy w' row) (hne : some g ≠ row) : Chunk w' g C L v := ⟨blk_grown h.blk hg hne, h.lenC, h.lenL⟩
theorem Chunk.atC (h : Chunk w g C L v) (i : Nat) (hi : i < 4096) : w.cell? ⟨g, i * 2, none⟩ = some (.int .u8 (C.getD i P0).1) ∧ w.cell? ⟨g, i * 2 + 1, none⟩ = some (.int .u8 (C.getD i P0).2) := by
  rw [blk_cell h.blk, blk_cell h.blk, List.getElem?_toArray, List.getElem?_toArray]
  exact cells_C C L v h.lenC i hi
theorem Chunk.atL (h : Chunk w g C L v) (i : Nat) (hi : i < 4096) : w.cell? ⟨g, 8192 + i * 2, none⟩ = some (.int .u8 (L.getD i P0).1) ∧ w.cell? ⟨g, 8192 + i * 2 + 1, none⟩ = some (.int .u8 (L.getD i P0).2) := by
  rw [blk_cell h.blk, blk_cell h.blk, List.getElem?_toArray, List.getElem?_toArray]
  exact cells_L C L v h.lenC h.lenL i hi
theorem Chunk.atT (h : Chunk w g C L v) : w.cell? ⟨g, 16384, none⟩ = some v := by
  rw [blk_cell h.blk, List.getElem?_toArray]
  exact cells_T C L v h.lenC h.lenL
end
def U8 (l : List Pr) : Prop := ∀ p ∈ l, (0 ≤ p.1 ∧ p.1 < 256) ∧ 0 ≤ p.2 ∧ p.2 < 256
theorem U8.at_ {l : List Pr} (h : U8 l) (i : Nat) (hi : i < l.length) : (0 ≤ (l.getD i P0).1 ∧ (l.getD i P0).1 < 256) ∧ 0 ≤ (l.getD i P0).2 ∧ (l.getD i P0).2 < 256 := by
  rw [List.getD_eq_getElem?_getD, List.getElem?_eq_getElem hi]
  exact h _ (List.getElem_mem hi)
def kT : Kd Pr := Kd.pair (Kd.int .i64) (Kd.int .i64)
def TK (w : World) (v : Value) (T : List Pr) : Prop := ∃ A c, v = .slice A T.length c ∧ T.length ≤ c ∧ Kd.C kT w A T.length T
theorem at_field (a : Addr) (i k : Nat) (hk : 0 < k) : a.add (i + k) = ⟨(a.add i).block, (a.add i).off + k, none⟩ := by
  unfold Addr.add
  rw [if_neg (by omega)]
  split
  · subst_vars; simp
  · simp [Nat.add_assoc]
theorem kT_open {w : World} {x : Pr} {cs : List Value} (h : kT.K w x cs) : cs = [.int .i64 x.1, .int .i64 x.2] := by
  obtain ⟨_, _, rfl, rfl, rfl⟩ := h
  rfl
theorem tick_at {w : World} {A : Option Addr} {n : Nat} {T : List Pr} (h : Kd.C kT w A n T) (j : Nat) (hj : j < n) : ∃ ad, A = some ad ∧ w.cell? (ad.add (j * 2)) = some (.int .i64 (T.getD j P0).1) ∧ w.cell? ⟨(ad.add (j * 2)).block, (ad.add (j * 2)).off + 1, none⟩ = some (.int .i64 (T.getD j P0).2) := by
  obtain ⟨ad, e, hc⟩ := h.2.2 (by omega)
  obtain ⟨c, hl, hk, hcell⟩ := hc j (T.getD j P0) (by rw [List.getD_eq_getElem?_getD, List.getElem?_eq_getElem (by have := h.1; omega)]; rfl)
  obtain rfl := kT_open hk
  refine ⟨ad, e, hcell 0 _ rfl, ?_⟩
  rw [← at_field ad (j * 2) 1 (by decide)]; exact hcell 1 _ rfl
def okAt (C L : List Pr) (i : Nat) : Bool := mayK (C.getD i P0) && (decide ((L.getD i P0).1 ≤ 15) && decide ((L.getD i P0).2 ≤ 15))
def tOk : Int → List Pr → Bool
  | _, [] => true
  | was, t :: r => decide (was < t.1) && (decide (t.1 < 4096) && (decide (1 ≤ t.2) && (decide (t.2 ≤ 2199023255552) && tOk t.1 r)))
def mayB (C L T : List Pr) : Bool := (List.range 4096).all (okAt C L) && tOk (-1) T
end Go.Proofs.Ytkecppgodmbmlaa.PK

namespace Go.Proofs.Ytkecppgodmbmlaa.PK
open Go.RowKit Go.Proofs.YtkecppgodmbmlaaW.PrintWords Go.Proofs.YtkecppgodmbmlaaW.PrintLast Go.Proofs.YtkecppgodmbmlaaW.PrintMore
set_option linter.unusedVariables false
set_option linter.unusedSimpArgs false
theorem all_false {C L : List Pr} {i : Nat} (hi : i < 4096) (h : okAt C L i = false) : (List.range 4096).all (okAt C L) = false := by
  cases hc : (List.range 4096).all (okAt C L) with
  | false => rfl
  | true => rw [List.all_eq_true.mp hc i (List.mem_range.2 hi)] at h; cases h
set_option maxHeartbeats 2000000 in
set_option maxRecDepth 100000 in
theorem pmay_calls (g : Nat) (C L T : List Pr) (A : Option Addr) (c : Nat) (w : World) (h : Chunk w g C L (.slice A T.length c)) (hT : Kd.C kT w A T.length T) (hC : U8 C) (hL : U8 L) (hlT : T.length ≤ 140737488355328) :
    Calls Try.prog 21 #[.pointer (some ⟨g, 0, none⟩)] w fun e w' => e = .returned (.bool (mayB C L T)) ∧ Below w.heap.size w w' := by
  have H := Lib.hid h
  have HT := Lib.hid hT
  have HC := Lib.hid hC
  have HL := Lib.hid hL
  clear h hT hC hL
  go_enter Try.func21, Try.ntmps21
  go_wp2
  go_loopw [7] (fun iv W => ∃ i : Nat, i ≤ 4096 ∧ iv = .int .i64 (i : Int) ∧ Aside0 (∀ j, j < i → okAt C L j = true) ∧ Aside0 (Below w.heap.size w W)) (fun iv _ => 4096 - (intOf iv).toNat)
  case atStart => exact ⟨0, by omega, rfl, ⟨fun j hj => by omega⟩, ⟨Below.refl _ _⟩⟩
  case round =>
    obtain ⟨i, hi, rfl, ⟨hok⟩, ⟨hb⟩⟩ := hrel
    have HB := Lib.hid hb
    have HOK := Lib.hid hok
    clear hb hok
    by_cases hlt : i < 4096
    · have hd := decide_eq_true (show (i : Int) < 4096 by omega)
      have p1 : (0 ≤ (i : Int)) = True := eq_true (by omega)
      have p2 : ((i : Int) < 4096) = True := eq_true (by omega)
      have HW := H.out.below HB.out H.out.lt
      obtain ⟨c0, c1⟩ := HW.atC i hlt
      obtain ⟨hu1, hu2⟩ := HC.out.at_ i (by rw [H.out.lenC]; exact hlt)
      have HM := Lib.hid (fun W => may_calls (C.getD i P0) hu1.1 hu1.2 W)
      have HE := Lib.hid (show okAt C L i = (mayK (C.getD i P0) && (decide ((L.getD i P0).1 ≤ 15) && decide ((L.getD i P0).2 ≤ 15))) from rfl)
      obtain ⟨⟨ck, cl⟩, hci⟩ : ∃ q, C.getD i P0 = q := ⟨_, rfl⟩
      obtain ⟨⟨sk, la⟩, hli⟩ : ∃ q, L.getD i P0 = q := ⟨_, rfl⟩
      rw [hci] at c0 c1 HM HE
      rw [hli] at HE
      have Hli := Lib.hid hli
      clear HW hu1 hu2 hci hli
      go_wp2_with fail
      refine (HM.out _).mono ?_; rintro e w1 ⟨rfl, hb1⟩
      have HB1 := Lib.hid (below_step HB.out hb1)
      have HW1 := H.out.below HB1.out H.out.lt
      obtain ⟨l0, l1⟩ := HW1.atL i hlt
      rw [Hli.out] at l0 l1
      clear hb1 HW1 c0 c1
      cases hm : mayK (ck, cl) with
      | false =>
        have HF := Lib.hid (all_false hlt (HE.out.trans (by rw [hm]; rfl)))
        clear hm
        go_wp2
        go_ret
        exact ⟨by unfold mayB; rw [HF.out]; rfl, HB1.out⟩
      | true =>
        by_cases hs : sk ≤ 15
        · have hs1 := decide_eq_false (show ¬ (15 : Int) < sk by omega)
          by_cases hp : la ≤ 15
          · have hp1 := decide_eq_false (show ¬ (15 : Int) < la by omega)
            have HF := Lib.hid (HE.out.trans (show _ = true by rw [hm, decide_eq_true hs, decide_eq_true hp]; rfl))
            clear hm hs hp
            go_wp2
            go_roundw
            case rel => exact ⟨i + 1, by omega, by go_num, ⟨fun j hj => by
              rcases Nat.lt_or_ge j i with h | h
              · exact HOK.out j h
              · obtain rfl : j = i := by omega
                exact HF.out⟩, ⟨HB1.out⟩⟩
            case measure => simp [intOf]; omega
          · have hp1 := decide_eq_true (show (15 : Int) < la by omega)
            have HF := Lib.hid (all_false hlt (HE.out.trans (show _ = false by rw [hm, decide_eq_true hs, decide_eq_false hp]; rfl)))
            clear hm hs hp
            go_wp2
            go_ret
            exact ⟨by unfold mayB; rw [HF.out]; rfl, HB1.out⟩
        · have hs1 := decide_eq_true (show (15 : Int) < sk by omega)
          have HF := Lib.hid (all_false hlt (HE.out.trans (show _ = false by rw [hm, decide_eq_false hs]; rfl)))
          clear hm hs
          go_wp2
          go_ret
          exact ⟨by unfold mayB; rw [HF.out]; rfl, HB1.out⟩
    · have hd := decide_eq_false (show ¬ (i : Int) < 4096 by omega)
      have HF : Hid ((List.range 4096).all (okAt C L) = true) := Lib.hid (by
        rw [List.all_eq_true]
        intro j hj
        exact HOK.out j (by have := List.mem_range.1 hj; omega))
      have HW := H.out.below HB.out H.out.lt
      have ht := HW.atT
      clear HW hlt
      go_wp2
      go_loopw [4, 44] (fun wv jv W => ∃ (j : Nat) (was : Int), j ≤ T.length ∧ wv = .int .i64 was ∧ jv = .int .i64 (j : Int) ∧ Aside0 (tOk (-1) T = tOk was (T.drop j)) ∧ Aside0 (Below w.heap.size w W)) (fun _ jv _ => T.length - (intOf jv).toNat)
      case atStart => exact ⟨0, -1, by omega, rfl, rfl, ⟨rfl⟩, ⟨HB.out⟩⟩
      case round =>
        obtain ⟨j, was, hj, rfl, rfl, ⟨hto⟩, ⟨hb⟩⟩ := hrel
        have HBj := Lib.hid hb
        have HTO := Lib.hid hto
        clear hb hto
        by_cases hjl : j < T.length
        · have hd2 := decide_eq_true (show (j : Int) < (T.length : Int) by omega)
          obtain ⟨ad, rfl, t0, t1⟩ := tick_at (Kd.C_below HT.out HBj.out) j hjl
          have hdr : T.drop j = T.getD j P0 :: T.drop (j + 1) := by rw [List.drop_eq_getElem_cons hjl, List.getD_eq_getElem?_getD, List.getElem?_eq_getElem hjl]; rfl
          obtain ⟨⟨ta, td⟩, hti⟩ : ∃ q, T.getD j P0 = q := ⟨_, rfl⟩
          rw [hti] at t0 t1 hdr
          have HS := Lib.hid (show tOk (-1) T = (decide (was < ta) && (decide (ta < 4096) && (decide (1 ≤ td) && (decide (td ≤ 2199023255552) && tOk ta (T.drop (j + 1)))))) by rw [HTO.out, hdr]; rfl)
          have q1 : (0 ≤ (j : Int)) = True := eq_true (by omega)
          have q2 : ((j : Int) < (T.length : Int)) = True := eq_true (by omega)
          clear hdr hti
          by_cases e1 : was < ta
          · have d1 := decide_eq_false (show ¬ ta ≤ was by omega)
            by_cases e2 : ta < 4096
            · have d2 := decide_eq_false (show ¬ 4096 ≤ ta by omega)
              by_cases e3 : 1 ≤ td
              · have d3 := decide_eq_false (show ¬ td < 1 by omega)
                by_cases e4 : td ≤ 2199023255552
                · have d4 := decide_eq_false (show ¬ 2199023255552 < td by omega)
                  have HS2 := Lib.hid (HS.out.trans (show _ = tOk ta (T.drop (j + 1)) by rw [decide_eq_true e1, decide_eq_true e2, decide_eq_true e3, decide_eq_true e4]; rfl))
                  clear e1 e2 e3 e4
                  go_wp2
                  go_roundw
                  case rel => exact ⟨j + 1, ta, by omega, rfl, by go_num, ⟨HS2.out⟩, ⟨below_alloc HBj.out _⟩⟩
                  case measure => simp [intOf]; omega
                · have d4 := decide_eq_true (show 2199023255552 < td by omega)
                  have HS2 := Lib.hid (HS.out.trans (show _ = false by rw [decide_eq_false e4]; simp))
                  clear e1 e2 e3 e4
                  go_wp2
                  go_ret
                  exact ⟨by unfold mayB; rw [HF.out, HS2.out]; rfl, below_alloc HBj.out _⟩
              · have d3 := decide_eq_true (show td < 1 by omega)
                have HS2 := Lib.hid (HS.out.trans (show _ = false by rw [decide_eq_false e3]; simp))
                clear e1 e2 e3
                go_wp2
                go_ret
                exact ⟨by unfold mayB; rw [HF.out, HS2.out]; rfl, below_alloc HBj.out _⟩
            · have d2 := decide_eq_true (show 4096 ≤ ta by omega)
              have HS2 := Lib.hid (HS.out.trans (show _ = false by rw [decide_eq_false e2]; simp))
              clear e1 e2
              go_wp2
              go_ret
              exact ⟨by unfold mayB; rw [HF.out, HS2.out]; rfl, below_alloc HBj.out _⟩
          · have d1 := decide_eq_true (show ta ≤ was by omega)
            have HS2 := Lib.hid (HS.out.trans (show _ = false by rw [decide_eq_false e1]; rfl))
            clear e1
            go_wp2
            go_ret
            exact ⟨by unfold mayB; rw [HF.out, HS2.out]; rfl, below_alloc HBj.out _⟩
        · have hd2 := decide_eq_false (show ¬ (j : Int) < (T.length : Int) by omega)
          have HS2 := Lib.hid (show tOk (-1) T = true by rw [HTO.out, List.drop_of_length_le (by omega)]; rfl)
          go_wp2
          go_ret
          exact ⟨by unfold mayB; rw [HF.out, HS2.out]; rfl, HBj.out⟩
end Go.Proofs.Ytkecppgodmbmlaa.PK

namespace Go.Proofs.Ytkecppgodmbmlaa.PK
open Go.RowKit Go.Proofs.YtkecppgodmbmlaaW.PrintWords Go.Proofs.YtkecppgodmbmlaaW.PrintLast Go.Proofs.YtkecppgodmbmlaaW.PrintMore
set_option linter.unusedVariables false
set_option linter.unusedSimpArgs false
def key (p : Pr) : Value := .agg #[.int .u8 p.1, .int .u8 p.2]
theorem eq_cell (p q : Pr) (W : World) : (Op.equal 34 (key p) (key q)).run Try.prog W = .ok (p.1 == q.1 && (p.2 == q.2)) W := by
  refine eqA_of (d := 9999) Try.underlying34 (by kernel_rfl) ?_
  refine eqf_cons (by rfl) (by go_simp; rfl) (by go_simp; rfl) (by go_simp) ?_
  exact eqf_last (by rfl) (by go_simp; rfl) (by go_simp; rfl) (by go_simp)
theorem check_cell (e : Bool) (p : Pr) (W : World) : (Instr.checkKey e 10000 34 (key p)).run Try.prog W = .ok () W := by
  kernel_rfl
def ents : Nat → List Pr → List MapEntry
  | _, [] => []
  | i, p :: r => { key := key p, val := .int .u8 (i : Int), born := i } :: ents (i + 1) r
theorem ents_snoc : ∀ (P : List Pr) (i : Nat) (p : Pr), ents i (P ++ [p]) = ents i P ++ [{ key := key p, val := .int .u8 ((i + P.length : Nat) : Int), born := i + P.length }]
  | [], i, p => rfl
  | q :: P, i, p => by
    rw [List.cons_append, ents, ents, ents_snoc P (i + 1) p, List.cons_append, List.length_cons, show i + 1 + P.length = i + (P.length + 1) by omega]
theorem ents_length : ∀ (P : List Pr) (i : Nat), (ents i P).length = P.length
  | [], i => rfl
  | q :: P, i => by rw [ents, List.length_cons, ents_length P (i + 1), List.length_cons]
def lk (i : Nat) : List Pr → Pr → Option Nat
  | [], _ => none
  | q :: r, p => if p = q then some i else lk (i + 1) r p
theorem run_ask (p : Pr) (W : World) : ∀ (P : List Pr) (i : Nat), (Instr.findAsking 34 (key p) (ents i P) i).run Try.prog W = .ok ((lk i P p).map fun j => (j, .int .u8 (j : Int))) W
  | [], i => rfl
  | q :: P, i => by
    rw [ents, Instr.findAsking]
    simp only [Sem.run_bind, eq_cell, Result.andThen_ok]
    rw [lk]
    by_cases h : p = q
    · subst h
      rw [if_pos rfl]
      simp [Sem.run_pure]
    · rw [if_neg h]
      have hb : (p.1 == q.1 && (p.2 == q.2)) = false := by
        cases hc : (p.1 == q.1 && (p.2 == q.2)) with
        | false => rfl
        | true =>
          rw [Bool.and_eq_true, beq_iff_eq, beq_iff_eq] at hc
          exact absurd (Prod.ext hc.1 hc.2) h
      rw [hb]
      simp only [Bool.false_eq_true, if_false]
      exact run_ask p W P (i + 1)
theorem run_find (p : Pr) (P : List Pr) (W : World) : (Instr.findKey 34 (key p) (ents 0 P)).run Try.prog W = .ok ((lk 0 P p).map fun j => (j, .int .u8 (j : Int))) W := by
  unfold Instr.findKey
  rw [Sem.run_bind, run_underlying Try.underlying34 W, Result.andThen_ok]
  cases P with
  | nil => rfl
  | cons q P =>
    have := run_ask p W (q :: P) 0
    rw [← this]
    rfl
def setB (w : World) (b : Nat) (o : Obj) : World := { w with heap := w.heap.setIfInBounds b o }
def Pal (w : World) (b : Nat) (P : List Pr) : Prop := w.heap[b]? = some (.map (ents 0 P).toArray P.length)
theorem zero_u8 (W : World) : (zeroValue 5).run Try.prog W = .ok (.int .u8 0) W := by kernel_rfl
theorem run_look {w : World} {b : Nat} {P : List Pr} (h : Pal w b P) (p : Pr) :
    (Instr.lookup 60 (.map (some b)) (key p) true).run Try.prog w = .ok (.tuple #[.int .u8 (((lk 0 P p).getD 0 : Nat) : Int), .bool (lk 0 P p).isSome]) w := by
  unfold Instr.lookup
  simp only [Sem.run_bind, run_underlying Try.underlying60 w, Result.andThen_ok, run_getObj_map w b _ _ h, check_cell, Sem.run_pure, run_find]
  cases lk 0 P p with
  | none => simp [Sem.run_bind, zero_u8, Sem.run_pure]
  | some j => simp [Sem.run_bind, Sem.run_pure]
theorem run_upd {w : World} {b : Nat} {P : List Pr} (h : Pal w b P) (p : Pr) (hp : lk 0 P p = none) :
    (Instr.mapUpdate 60 (.map (some b)) (key p) (.int .u8 (P.length : Int))).run Try.prog w = .ok () (setB w b (.map (ents 0 (P ++ [p])).toArray (P.length + 1))) := by
  unfold Instr.mapUpdate
  simp only [Sem.run_bind, run_underlying Try.underlying60 w, Result.andThen_ok, run_getObj_map w b _ _ h, check_cell, Sem.run_pure, run_find, hp]
  rw [ents_snoc]
  have hs := fun o => Go.MapKept.run_setObj_map (P := Try.prog) o h
  simp [hs, setB]
theorem pal_upd {w : World} {b : Nat} {P : List Pr} (h : Pal w b P) (p : Pr) : Pal (setB w b (.map (ents 0 (P ++ [p])).toArray (P.length + 1))) b (P ++ [p]) := by
  unfold Pal setB
  rw [List.length_append, List.length_singleton]
  simp [Array.getElem?_setIfInBounds, (Array.getElem?_eq_some_iff.1 h).1]
end Go.Proofs.Ytkecppgodmbmlaa.PK

namespace Go.Proofs.Ytkecppgodmbmlaa.RU
open Go.RowKit Go.Proofs.Ytkecppgodmbmlaa.CD Go.Proofs.Ytkecppgodmbmlaa.BR
set_option linter.unusedVariables false
set_option linter.unusedSimpArgs false
def runF : Nat → Int → List Int → List (Nat × Int)
  | n, x, [] => [(n, x)]
  | n, x, y :: l => if y = x then runF (n + 1) x l else (n, x) :: runF 1 y l
def runs : List Int → List (Nat × Int)
  | [] => []
  | x :: l => runF 1 x l
def rBytes (r : List (Nat × Int)) : List Int := r.flatMap fun p => num p.1 ++ [p.2]
def flat (r : List (Nat × Int)) : List Int := r.flatMap fun p => List.replicate p.1 p.2
theorem flat_runF : ∀ (l : List Int) (n : Nat) (x : Int), flat (runF n x l) = List.replicate n x ++ l
  | [], n, x => by simp [runF, flat]
  | y :: l, n, x => by
    simp only [runF]
    split
    · rename_i h
      rw [flat_runF l (n + 1) x, h, List.replicate_succ']
      simp
    · have := flat_runF l 1 y
      unfold flat at this ⊢
      rw [List.flatMap_cons, this]
      simp
theorem flat_runs (l : List Int) : flat (runs l) = l := by
  cases l with
  | nil => rfl
  | cons x l => unfold runs; rw [flat_runF]; simp
def Good : Option Int → List (Nat × Int) → Prop
  | _, [] => True
  | was, (n, x) :: r => 1 ≤ n ∧ was ≠ some x ∧ Good (some x) r
theorem good_runF : ∀ (l : List Int) (n : Nat) (x : Int) (was : Option Int), 1 ≤ n → was ≠ some x → Good was (runF n x l)
  | [], n, x, was, hn, hw => ⟨hn, hw, trivial⟩
  | y :: l, n, x, was, hn, hw => by
    simp only [runF]
    split
    · exact good_runF l (n + 1) x was (by omega) hw
    · rename_i h
      exact ⟨hn, hw, good_runF l 1 y (some x) (by omega) (fun e => h (by injection e with e; exact e.symm))⟩
theorem good_runs (l : List Int) : Good none (runs l) := by
  cases l with
  | nil => trivial
  | cons x l => exact good_runF l 1 x none (by omega) (by simp)
theorem runF_flat : ∀ (r : List (Nat × Int)) (n : Nat) (x : Int), 1 ≤ n → Good (some x) r → ∀ k, k < n → runF (n - k) x (List.replicate k x ++ flat r) = (n, x) :: runs (flat r)
  | r, n, x, hn, hg, 0, hk => by
    simp only [Nat.sub_zero, List.replicate_zero, List.nil_append]
    cases r with
    | nil => simp [flat, runF, runs]
    | cons p r =>
      obtain ⟨m, y⟩ := p
      obtain ⟨hm, hne, hr⟩ := hg
      obtain ⟨m, rfl⟩ : ∃ q, m = q + 1 := ⟨m - 1, by omega⟩
      have e : flat ((m + 1, y) :: r) = y :: (List.replicate m y ++ flat r) := by simp [flat, List.replicate_succ]
      rw [e]
      simp only [runF, runs]
      rw [if_neg (fun h => hne (by rw [h]))]
  | r, n, x, hn, hg, k + 1, hk => by
    rw [List.replicate_succ, List.cons_append]
    simp only [runF, if_true]
    have := runF_flat r n x hn hg k (by omega)
    rw [show n - (k + 1) + 1 = n - k by omega]
    exact this
theorem runs_flat : ∀ (r : List (Nat × Int)) (was : Option Int), Good was r → runs (flat r) = r
  | [], _, _ => rfl
  | (n, x) :: r, was, hg => by
    obtain ⟨hn, hne, hr⟩ := hg
    obtain ⟨m, rfl⟩ : ∃ q, n = q + 1 := ⟨n - 1, by omega⟩
    have e : flat ((m + 1, x) :: r) = x :: (List.replicate m x ++ flat r) := by simp [flat, List.replicate_succ]
    rw [e]
    simp only [runs]
    have := runF_flat r (m + 1) x (by omega) hr m (by omega)
    rw [show m + 1 - m = 1 by omega] at this
    rw [this, runs_flat r (some x) hr]
end Go.Proofs.Ytkecppgodmbmlaa.RU

namespace Go.Proofs.Ytkecppgodmbmlaa.RU
open Go.RowKit Go.Proofs.Ytkecppgodmbmlaa.CD Go.Proofs.Ytkecppgodmbmlaa.BR
set_option linter.unusedVariables false
set_option linter.unusedSimpArgs false
def bad (n : Nat) (X l : List Int) : Bool := decide ((dec X).2 = 0 ∨ X.length ≤ (dec X).2 ∨ (dec X).1 = 0 ∨ n - l.length < (dec X).1 ∨ l.getLast? = some (X.getD (dec X).2 0))
def getG : Nat → Nat → List Int → List Int → Option (List Int × List Int)
  | 0, _, _, _ => none
  | f + 1, n, X, l =>
    if l.length < n then
      if bad n X l = true then none else getG f n (X.drop ((dec X).2 + 1)) (l ++ List.replicate (dec X).1 (X.getD (dec X).2 0))
    else some (l, X)
theorem getG_end (f n : Nat) (X l : List Int) (h : ¬ l.length < n) : getG (f + 1) n X l = some (l, X) := by rw [getG, if_neg h]
theorem getG_bad (f n : Nat) (X l : List Int) (h : l.length < n) (hb : bad n X l = true) : getG (f + 1) n X l = none := by rw [getG, if_pos h, if_pos hb]
theorem getG_go (f n : Nat) (X l : List Int) (h : l.length < n) (hb : bad n X l = false) : getG (f + 1) n X l = getG f n (X.drop ((dec X).2 + 1)) (l ++ List.replicate (dec X).1 (X.getD (dec X).2 0)) := by
  rw [getG, if_pos h, hb]; rfl
theorem bad_false {n : Nat} {X l : List Int} (h : bad n X l = false) : (dec X).2 ≠ 0 ∧ (dec X).2 < X.length ∧ (dec X).1 ≠ 0 ∧ (dec X).1 ≤ n - l.length ∧ l.getLast? ≠ some (X.getD (dec X).2 0) := by
  have h := of_decide_eq_false h
  refine ⟨fun e => h (.inl e), ?_, fun e => h (.inr (.inr (.inl e))), ?_, fun e => h (.inr (.inr (.inr (.inr e))))⟩
  · exact Nat.lt_of_not_le fun e => h (.inr (.inl e))
  · exact Nat.le_of_not_lt fun e => h (.inr (.inr (.inr (.inl e))))
theorem rBytes_cons (m : Nat) (x : Int) (r : List (Nat × Int)) (more : List Int) : rBytes ((m, x) :: r) ++ more = num m ++ (x :: (rBytes r ++ more)) := by
  unfold rBytes
  simp [List.append_assoc]
theorem getD_mid (a : List Int) (x : Int) (b : List Int) : (a ++ x :: b).getD a.length 0 = x := by
  rw [List.getD_eq_getElem?_getD, List.getElem?_append_right (Nat.le_refl _)]; simp
theorem drop_mid (a : List Int) (x : Int) (b : List Int) : (a ++ x :: b).drop (a.length + 1) = b := by
  rw [List.drop_append]; simp
theorem last_rep (l : List Int) (m : Nat) (x : Int) (hm : 1 ≤ m) : (l ++ List.replicate m x).getLast? = some x := by
  obtain ⟨q, rfl⟩ : ∃ q, m = q + 1 := ⟨m - 1, by omega⟩
  rw [List.replicate_succ', ← List.append_assoc]
  simp
theorem getG_put : ∀ (r : List (Nat × Int)) (more l : List Int) (f n : Nat), Good l.getLast? r → n < 18446744073709551616 → l.length + (flat r).length = n → r.length < f → getG f n (rBytes r ++ more) l = some (l ++ flat r, more)
  | [], more, l, f, n, hg, hn64, hn, hf => by
    obtain ⟨f, rfl⟩ : ∃ q, f = q + 1 := ⟨f - 1, by omega⟩
    rw [getG_end _ _ _ _ (by simp [flat] at hn; omega)]
    simp [rBytes, flat]
  | (m, x) :: r, more, l, f, n, hg, hn64, hn, hf => by
    obtain ⟨f, rfl⟩ : ∃ q, f = q + 1 := ⟨f - 1, by omega⟩
    obtain ⟨hm, hne, hr⟩ := hg
    have hfl : flat ((m, x) :: r) = List.replicate m x ++ flat r := by simp [flat]
    rw [hfl] at hn ⊢
    rw [List.length_append, List.length_replicate] at hn
    rw [rBytes_cons]
    have hd := dec_num m (x :: (rBytes r ++ more)) (by omega)
    have hp := num_pos m
    have hx := getD_mid (num m) x (rBytes r ++ more)
    have hb : bad n (num m ++ (x :: (rBytes r ++ more))) l = false := by
      refine decide_eq_false ?_
      rw [hd]
      simp only
      rw [hx]
      rintro (h | h | h | h | h)
      · omega
      · rw [List.length_append, List.length_cons] at h; omega
      · omega
      · omega
      · exact hne h
    rw [getG_go _ _ _ _ (by omega) hb, hd]
    simp only
    rw [hx, drop_mid]
    have ih := getG_put r more (l ++ List.replicate m x) f n (by rw [last_rep l m x hm]; exact hr) hn64 (by rw [List.length_append, List.length_replicate]; omega) (by simp only [List.length_cons] at hf; omega)
    rw [ih, List.append_assoc]
theorem getG_back : ∀ (f n : Nat) (X l l2 rest : List Int), Bytes X → getG f n X l = some (l2, rest) → ∃ r, l2 = l ++ flat r ∧ X = rBytes r ++ rest ∧ Good l.getLast? r ∧ (l.length ≤ n → l2.length = n)
  | 0, _, _, _, _, _, _, h => by simp [getG] at h
  | f + 1, n, X, l, l2, rest, hX, h => by
    by_cases hl : l.length < n
    · cases hb : bad n X l with
      | true => rw [getG_bad _ _ _ _ hl hb] at h; cases h
      | false =>
        rw [getG_go _ _ _ _ hl hb] at h
        obtain ⟨h1, h2, h3, h4, h5⟩ := bad_false hb
        obtain ⟨⟨m, k⟩, hd⟩ : ∃ q, dec X = q := ⟨_, rfl⟩
        rw [hd] at h h1 h2 h3 h4 h5
        simp only at h h1 h2 h3 h4 h5
        obtain ⟨hm, hk, hXe, _, _, _⟩ := dec_back X hX m k hd h1
        obtain ⟨r, e1, e2, e3, e4⟩ := getG_back f n _ _ l2 rest (hX.drop _) h
        refine ⟨(m, X.getD k 0) :: r, ?_, ?_, ?_, ?_⟩
        · rw [e1]; simp [flat]
        · rw [rBytes_cons, ← e2]
          have : X.drop k = X.getD k 0 :: X.drop (k + 1) := by rw [List.drop_eq_getElem_cons h2, List.getD_eq_getElem?_getD, List.getElem?_eq_getElem h2]; rfl
          rw [← this]
          exact hXe
        · rw [last_rep l m _ (by omega)] at e3
          exact ⟨by omega, h5, e3⟩
        · intro _
          exact e4 (by rw [List.length_append, List.length_replicate]; omega)
    · rw [getG_end _ _ _ _ hl] at h
      simp only [Option.some.injEq, Prod.mk.injEq] at h
      obtain ⟨rfl, rfl⟩ := h
      exact ⟨[], by simp [flat], by simp [rBytes], trivial, fun hle => by omega⟩
theorem runs_len (l : List Int) : (runs l).length ≤ l.length := by
  have h : ∀ (r : List (Nat × Int)) (was : Option Int), Good was r → r.length ≤ (flat r).length := by
    intro r
    induction r with
    | nil => intro _ _; simp
    | cons p r ih =>
      intro was hg
      obtain ⟨m, x⟩ := p
      obtain ⟨hm, _, hr⟩ := hg
      have := ih _ hr
      have e : flat ((m, x) :: r) = List.replicate m x ++ flat r := by simp [flat]
      rw [e, List.length_append, List.length_replicate, List.length_cons]
      omega
  have := h (runs l) none (good_runs l)
  rwa [flat_runs] at this
def row (l : List Int) : List Int := rBytes (runs l)
theorem getG_row (l more : List Int) (hl : l.length < 18446744073709551616) : getG (l.length + 1) l.length (row l ++ more) [] = some (l, more) := by
  have h := getG_put (runs l) more [] (l.length + 1) l.length (good_runs l) hl (by rw [flat_runs]; simp) (by have := runs_len l; omega)
  rw [flat_runs] at h
  exact h
theorem getG_one (n : Nat) (X l rest : List Int) (hX : Bytes X) (h : getG (n + 1) n X [] = some (l, rest)) : l.length = n ∧ X = row l ++ rest := by
  obtain ⟨r, e1, e2, e3, e4⟩ := getG_back _ n X [] l rest hX h
  have e4 := e4 (by simp)
  have hr : runs l = r := by rw [e1, List.nil_append]; exact runs_flat r none e3
  exact ⟨e4, by unfold row; rw [hr]; exact e2⟩
theorem row_bytes (l : List Int) (hb : Bytes l) (hl : l.length < 18446744073709551616) : Bytes (row l) := by
  have h : ∀ (r : List (Nat × Int)) (was : Option Int), Good was r → Bytes (flat r) → (flat r).length < 18446744073709551616 → Bytes (rBytes r) := by
    intro r
    induction r with
    | nil => intro _ _ _ _; exact Bytes.nil
    | cons p r ih =>
      intro was hg hbb hll
      obtain ⟨m, x⟩ := p
      obtain ⟨hm, _, hr⟩ := hg
      have e : flat ((m, x) :: r) = List.replicate m x ++ flat r := by simp [flat]
      rw [e] at hbb hll
      rw [List.length_append, List.length_replicate] at hll
      have e2 := rBytes_cons m x r []
      rw [List.append_nil, List.append_nil] at e2
      rw [e2]
      refine (num_bytes m (by omega)).append (Bytes.mk ?_ (ih _ hr hbb.right (by omega)))
      exact hbb x (List.mem_append_left _ (by rw [List.mem_replicate]; exact ⟨by omega, rfl⟩))
  have := h (runs l) none (good_runs l)
  rw [flat_runs] at this
  exact this hb hl
end Go.Proofs.Ytkecppgodmbmlaa.RU

namespace Go.Proofs.Ytkecppgodmbmlaa.PK
open Go.RowKit Go.Proofs.Ytkecppgodmbmlaa.CD
set_option linter.unusedVariables false
set_option linter.unusedSimpArgs false
def stepP (s : List Pr × List Int) (p : Pr) : List Pr × List Int :=
  match lk 0 s.1 p with
  | some j => (s.1, s.2 ++ [(j : Int)])
  | none => (s.1 ++ [p], s.2 ++ [(s.1.length : Int)])
def codes (l : List Pr) : List Pr × List Int := l.foldl stepP ([], [])
theorem codes_snoc (l : List Pr) (p : Pr) : codes (l ++ [p]) = stepP (codes l) p := by unfold codes; rw [List.foldl_append]; rfl
theorem stepP_len (s : List Pr × List Int) (p : Pr) : (stepP s p).2.length = s.2.length + 1 := by
  unfold stepP
  split <;> simp
theorem codes_len (l : List Pr) : (codes l).2.length = l.length := by
  have h : ∀ (l : List Pr) (s : List Pr × List Int), (l.foldl stepP s).2.length = s.2.length + l.length := by
    intro l
    induction l with
    | nil => intro s; simp
    | cons p l ih => intro s; rw [List.foldl_cons, ih, stepP_len, List.length_cons]; omega
  have := h l ([], [])
  simpa [codes] using this
theorem lk_none : ∀ (P : List Pr) (i : Nat) (p : Pr), lk i P p = none ↔ p ∉ P
  | [], i, p => by simp [lk]
  | q :: P, i, p => by
    rw [lk]
    by_cases h : p = q
    · rw [if_pos h]; simp [h]
    · rw [if_neg h, lk_none P (i + 1) p]; simp [h]
theorem lk_lt : ∀ (P : List Pr) (i : Nat) (p : Pr) (j : Nat), lk i P p = some j → i ≤ j ∧ j < i + P.length ∧ P[j - i]? = some p
  | [], i, p, j, h => by simp [lk] at h
  | q :: P, i, p, j, h => by
    rw [lk] at h
    by_cases e : p = q
    · rw [if_pos e] at h
      injection h with h
      subst h e
      simp
    · rw [if_neg e] at h
      obtain ⟨h1, h2, h3⟩ := lk_lt P (i + 1) p j h
      refine ⟨by omega, by simp only [List.length_cons]; omega, ?_⟩
      rw [show j - i = (j - (i + 1)) + 1 by omega, List.getElem?_cons_succ]
      exact h3
theorem codes_nodup (l : List Pr) : (codes l).1.Nodup ∧ ∀ p ∈ (codes l).1, p ∈ l := by
  have h : ∀ (l : List Pr) (s : List Pr × List Int), s.1.Nodup → (l.foldl stepP s).1.Nodup ∧ ∀ p ∈ (l.foldl stepP s).1, p ∈ s.1 ∨ p ∈ l := by
    intro l
    induction l with
    | nil => intro s hs; exact ⟨hs, fun p hp => .inl hp⟩
    | cons q l ih =>
      intro s hs
      have hs2 : (stepP s q).1.Nodup ∧ ∀ p ∈ (stepP s q).1, p ∈ s.1 ∨ p = q := by
        unfold stepP
        cases hk : lk 0 s.1 q with
        | some j => exact ⟨hs, fun p hp => .inl hp⟩
        | none =>
          have hn := (lk_none s.1 0 q).1 hk
          refine ⟨?_, fun p hp => ?_⟩
          · simp only
            rw [List.nodup_append]
            exact ⟨hs, by simp, fun a ha b hb => by simp at hb; subst hb; exact fun e => hn (e ▸ ha)⟩
          · rcases List.mem_append.1 hp with h | h
            · exact .inl h
            · exact .inr (by simpa using h)
      obtain ⟨a, b⟩ := ih (stepP s q) hs2.1
      refine ⟨a, fun p hp => ?_⟩
      rcases b p hp with h | h
      · rcases hs2.2 p h with h | h
        · exact .inl h
        · exact .inr (by simp [h])
      · exact .inr (by simp [h])
  obtain ⟨a, b⟩ := h l ([], []) List.nodup_nil
  exact ⟨a, fun p hp => by rcases b p hp with h | h; cases h; exact h⟩
theorem nodup_le : ∀ (l m : List Nat), l.Nodup → (∀ x ∈ l, x ∈ m) → l.length ≤ m.length
  | [], m, _, _ => by simp
  | x :: l, m, hn, hs => by
    rw [List.nodup_cons] at hn
    have hx := hs x (by simp)
    have := nodup_le l (m.erase x) hn.2 (fun y hy => (List.mem_erase_of_ne (fun (e : y = x) => hn.1 (by rw [← e]; exact hy))).2 (hs y (by simp [hy])))
    rw [List.length_erase_of_mem hx] at this
    have := List.length_pos_of_mem hx
    simp only [List.length_cons]
    omega
def cnum (p : Pr) : Nat := (p.1 * 16 + p.2).toNat
theorem cnum_lt {p : Pr} (h : mayK p = true) (h0 : 0 ≤ p.1 ∧ 0 ≤ p.2) : cnum p < 240 ∧ p.2 < 16 ∧ p.1 < 15 := by
  unfold mayK at h
  rw [Bool.and_eq_true, Bool.and_eq_true] at h
  have h1 := of_decide_eq_true h.1
  have h3 := of_decide_eq_true h.2.2
  have : (lv p.1).2 ≤ 15 := by
    unfold lv
    repeat' split
    all_goals decide
  unfold cnum
  omega
theorem pal_small (l : List Pr) (hm : ∀ p ∈ l, mayK p = true) (h0 : U8 l) : (codes l).1.length ≤ 240 := by
  obtain ⟨hn, hs⟩ := codes_nodup l
  have hin : ∀ p ∈ (codes l).1, ∀ q ∈ (codes l).1, cnum p = cnum q → p = q := by
    intro p hp q hq e
    have a1 := h0 p (hs p hp); have a2 := h0 q (hs q hq)
    have b1 := cnum_lt (hm p (hs p hp)) ⟨a1.1.1, a1.2.1⟩
    have b2 := cnum_lt (hm q (hs q hq)) ⟨a2.1.1, a2.2.1⟩
    unfold cnum at e
    obtain ⟨p1, p2⟩ := p; obtain ⟨q1, q2⟩ := q
    simp only at *
    have : p1 * 16 + p2 = q1 * 16 + q2 := by omega
    have e1 : p1 = q1 := by omega
    have e2 : p2 = q2 := by omega
    rw [e1, e2]
  have := nodup_le ((codes l).1.map cnum) (List.range 240) (by
    unfold List.Nodup at hn ⊢
    rw [List.pairwise_map]
    exact List.Pairwise.imp_of_mem (fun ha hb hne e => hne (hin _ ha _ hb e)) hn) (fun x hx => by
    obtain ⟨p, hp, rfl⟩ := List.mem_map.1 hx
    have a1 := h0 p (hs p hp)
    exact List.mem_range.2 (cnum_lt (hm p (hs p hp)) ⟨a1.1.1, a1.2.1⟩).1)
  simpa using this
def pBytes (P : List Pr) : List Int := P.flatMap fun p => [p.1, p.2]
theorem pBytes_snoc (P : List Pr) (p : Pr) : pBytes (P ++ [p]) = pBytes P ++ [p.1, p.2] := by unfold pBytes; simp
theorem pBytes_len (P : List Pr) : (pBytes P).length = 2 * P.length := by
  induction P with
  | nil => rfl
  | cons p P ih => unfold pBytes at ih ⊢; rw [List.flatMap_cons, List.length_append, ih]; simp only [List.length_cons, List.length_nil]; omega
def lcode (p : Pr) : Int := p.1 * 16 + p.2
def tBytes : Int → List Pr → List Int
  | _, [] => []
  | was, t :: r => num (t.1 - was - 1).toNat ++ (num t.2.toNat ++ tBytes t.1 r)
def packB (C L T : List Pr) : List Int :=
  [((codes C).1.length : Int)] ++ pBytes (codes C).1 ++ RU.row (codes C).2 ++ RU.row (L.map lcode) ++ num T.length ++ tBytes (-1) T
end Go.Proofs.Ytkecppgodmbmlaa.PK

namespace Go.Proofs.Ytkecppgodmbmlaa.PK
open Go.RowKit Go.Proofs.YtkecppgodmbmlaaW.PrintWords Go.Proofs.YtkecppgodmbmlaaW.PrintLast Go.Proofs.YtkecppgodmbmlaaW.PrintMore
set_option linter.unusedVariables false
set_option linter.unusedSimpArgs false
theorem arr_info : (Try.prog.info? 43).map (·.size) = some 8192 := by kernel_rfl
theorem chunk_range {w : World} {g : Nat} {C L : List Pr} {v : Value} (h : Chunk w g C L v) : w.rangeAt g 0 (flat C) := fun j u hu => by
  rw [blk_cell h.blk, List.getElem?_toArray, Nat.zero_add]
  have hj := (List.getElem?_eq_some_iff.1 hu).1
  unfold cells
  rw [List.getElem?_append_left hj]
  exact hu
theorem load_cells {ops : Array Oper} {rest : List Oper} {a : Act} {w : World} {Q : Exit → Act → World → Prop} {d q : Tmp} {ty : TypeId} {p : String} {af : Array Edge} {g : Nat} {C L : List Pr} {v : Value} (h : Chunk w g C L v) (hx : a.eval (.tmp q) = .pointer (some ⟨g, 0, none⟩))
    (hk : wpList Try.prog ops Q rest (a.put (some d) (.agg (flat C).toArray)) w) :
    wpList Try.prog ops Q ({ dst := some d, op := .load 43 (.tmp q), type := ty, pos := p, after := af, guard := none } :: rest) a w :=
  wpList_load_mid rfl 43 (.tmp q) rfl g 0 hx (flat C) _ (chunk_range h) Try.underlying43 rfl (by rw [flat_length, h.lenC]; exact arr_info) hk
theorem flat_pair (C : List Pr) (i : Nat) (hi : i < C.length) : ((flat C).drop (i * 2)).take 2 = [.int .u8 (C.getD i P0).1, .int .u8 (C.getD i P0).2] := by
  obtain ⟨h1, h2⟩ := flat_at C i hi
  apply List.ext_getElem?
  intro j
  rw [List.getElem?_take]
  match j with
  | 0 => rw [if_pos (by omega), List.getElem?_drop, Nat.add_zero, Nat.mul_comm i 2, h1]; rfl
  | 1 => rw [if_pos (by omega), List.getElem?_drop, Nat.mul_comm i 2, h2]; rfl
  | j + 2 => rw [if_neg (by omega)]; rfl
theorem run_index (C : List Pr) (hC : C.length = 4096) (i : Nat) (hi : i < 4096) (W : World) : (Instr.index 43 (.agg (flat C).toArray) (.int .i64 (i : Int))).run Try.prog W = .ok (.agg #[.int .u8 (C.getD i P0).1, .int .u8 (C.getD i P0).2]) W := by
  have hp := flat_pair C i (by omega)
  have hi' : i < C.length := by omega
  rw [List.getD_eq_getElem?_getD, List.getElem?_eq_getElem hi', Option.getD_some] at hp ⊢
  unfold Instr.index
  go_simp
theorem run_len {w : World} {b : Nat} {P : List Pr} (h : Pal w b P) (ty : TypeId) : (Builtin.len_ #[60] ty #[.map (some b)]).run Try.prog w = .ok (.int .i64 (P.length : Int)) w := by
  have hl := ents_length P 0
  have hg := run_getObj_map (P := Try.prog) w b _ _ h
  unfold Builtin.len_
  simp [run_underlying Try.underlying60 w, hg, hl, goInt]
end Go.Proofs.Ytkecppgodmbmlaa.PK

namespace Go.Proofs.Ytkecppgodmbmlaa.RU
open Go.RowKit Go.Shelf Go.Proofs.YtkecppgodmbmlaaW.PrintWords Go.Proofs.YtkecppgodmbmlaaW.PrintLast Go.Proofs.YtkecppgodmbmlaaW.PrintMore Go.Proofs.Ytkecppgodmbmlaa.CD Go.Proofs.Ytkecppgodmbmlaa.BR
attribute [local go_sem] Oper.semAt_some
set_option linter.unusedVariables false
set_option linter.unusedSimpArgs false
def runAt (l : List Int) (i : Nat) : Nat × Int := (runs l).getD i (0, 0)
def KE (n₀ B : Nat) (W W' : World) : Prop := Below n₀ W W' ∧ W'.heap[B]? = W.heap[B]?
theorem KE.t {n₀ B : Nat} {X Y Z : World} (h : KE n₀ B X Y) (k : KE n₀ B Y Z) : KE n₀ B X Z := ⟨h.1.trans k.1, k.2.trans h.2⟩
theorem KE.b {n₀ B : Nat} {w : World} (hn : n₀ ≤ w.heap.size) (hB : B < w.heap.size) (W : World) (l : Nat) (o o' : Obj) (hl : w.heap.size ≤ l) (h : W.heap[l]? = some o) (hc : o.isCells = false) (hw : o.isWalk = false) : KE n₀ B W (W.putObj l o') :=
  ⟨belowK_b hn W l o o' hl h hc hw, World.putObj_heap_other (by omega)⟩
theorem runs_drop (l : List Int) (f : Nat) (hf : f < l.length) : runs (l.drop f) = runF 1 (l.getD f 0) (l.drop (f + 1)) := by
  rw [List.drop_eq_getElem_cons hf, List.getD_eq_getElem?_getD, List.getElem?_eq_getElem hf]; rfl
theorem runF_same (l : List Int) (n t : Nat) (x : Int) (ht : t < l.length) (hx : l.getD t 0 = x) : runF n x (l.drop t) = runF (n + 1) x (l.drop (t + 1)) := by
  rw [List.drop_eq_getElem_cons ht]
  rw [List.getD_eq_getElem?_getD, List.getElem?_eq_getElem ht] at hx
  change l[t] = x at hx
  simp only [runF]
  rw [if_pos hx]
theorem runF_other (l : List Int) (n t : Nat) (x : Int) (ht : t < l.length) (hx : l.getD t 0 ≠ x) : runF n x (l.drop t) = (n, x) :: runs (l.drop t) := by
  rw [runs_drop l t ht, List.drop_eq_getElem_cons ht]
  rw [List.getD_eq_getElem?_getD, List.getElem?_eq_getElem ht] at hx ⊢
  change l[t] ≠ x at hx
  simp only [runF]
  rw [if_neg hx]; rfl
theorem runF_end (l : List Int) (n t : Nat) (x : Int) (ht : ¬ t < l.length) : runF n x (l.drop t) = (n, x) :: runs (l.drop t) := by
  rw [List.drop_of_length_le (by omega)]; rfl
theorem runAt_of {l : List Int} {k n : Nat} {x : Int} {r : List (Nat × Int)} (h : runs l = (List.range k).map (runAt l) ++ (n, x) :: r) : runAt l k = (n, x) ∧ k < (runs l).length := by
  have h1 : ((List.range k).map (runAt l)).length = k := by simp
  constructor
  · unfold runAt
    rw [h, List.getD_eq_getElem?_getD, List.getElem?_append_right (by omega), h1]
    simp
  · rw [h, List.length_append, h1]; simp
theorem runs_all (l : List Int) : (List.range (runs l).length).map (runAt l) = runs l := by
  apply List.ext_getElem
  · simp
  · intro i h1 h2
    simp [runAt, List.getD_eq_getElem?_getD, h2]

theorem reads_n0 {w w1 : World} {k : IntKind} {A : Option Addr} {n n₀ : Nat} {xs : List Int} (h : ReadsInt w k A n xs) (hb : Below n₀ w w1) (hbl : ∀ ad, A = some ad → 0 < n → ad.block < n₀) : ReadsInt w1 k A n xs := by
  refine ⟨h.1, h.2.1, fun hn => ?_⟩
  obtain ⟨ad, rfl, hc⟩ := h.2.2 hn
  refine ⟨ad, rfl, fun j hj => (hb.cell (p := ad.add j) ?_).trans (hc j hj)⟩
  rw [add_block]; exact hbl ad rfl hn
set_option maxHeartbeats 400000 in
theorem each_calls (A : Option Addr) (n c : Nat) (w : World) :
    Calls Try.prog 37 #[.slice A n c] w fun e w' => e = .returned (.func (.func 46) #[] #[.pointer (some ⟨w.heap.size, 0, none⟩)]) ∧ w' = w.alloc (.cells #[.slice A n c] 26) := by
  go_enter Try.func37, Try.ntmps37
  go_wp2
  go_ret
  exact ⟨rfl, rfl⟩
set_option maxRecDepth 100000 in
set_option maxHeartbeats 2000000 in
theorem each1_calls (n : Nat) (hn : 1 ≤ n) (L Bn n₀ : Nat) (A : Option Addr) (c : Nat) (l : List Int) (hc : l.length ≤ c) (hbl : ∀ ad, A = some ad → 0 < l.length → ad.block < n₀) (hsm : l.length ≤ 1000000000) (J Jx : List Nat → World → Prop) (W : World)
    (hJ : AbidesFrom W.heap.size J)
    (hY : ∀ pre x W1, J pre W1 → pre.length < (runs l).length → YieldAt Fence.wide (n - 1) Try.prog L #[.int .i64 ((runAt l x).1 : Int), .int .u8 (runAt l x).2] W1 fun e W' =>
      (e = .returned (.bool true) ∧ J (pre ++ [x]) W' ∧ KE n₀ Bn W1 W') ∨ (e = .returned (.bool false) ∧ Jx (pre ++ [x]) W'))
    (hBn : W.heap[Bn]? = some (.cells #[.slice A l.length c] 26 (0, 0))) (hn0 : n₀ ≤ W.heap.size) (hr : ReadsInt W .u8 A l.length l) (h0 : J [] W) :
    CallsIn Fence.wide n Try.prog 46 #[.func (.yield L) #[] #[], .pointer (some ⟨Bn, 0, none⟩)] W fun e W' => (∃ v, e = .returned v) ∧
      ((∃ ys, ys = List.range (runs l).length ∧ J ys W') ∨ (∃ pre, (∃ k, k ≤ (runs l).length ∧ pre = List.range k) ∧ Jx pre W')) := by
  have HR := Lib.hid hr
  clear hr
  refine callsIn_of_wp Try.func46 rfl trivial ?_ rfl
  simp only [Try.ntmps46, List.size_toArray, List.length_cons, List.length_nil, Nat.reduceAdd, Nat.reduceSub, Array.replicate_succ, Array.replicate_zero, List.push_toArray, List.append_toArray, List.nil_append, List.cons_append]
  gi_wp2
  gi_loopw [3] (fun p wr => ∃ f k : Nat, p = .int .i64 (f : Int) ∧ f ≤ l.length ∧ Aside (runs l = (List.range k).map (runAt l) ++ runs (l.drop f)) ∧ J (List.range k) wr ∧ Aside (KE n₀ Bn W wr))
    (fun p _ => l.length - (intOf p).toNat)
  case atStart =>
    exact ⟨0, 0, rfl, Nat.zero_le _, Lib.hid (by simp), h0, Lib.hid ⟨Below.refl _ _, rfl⟩⟩
  case round =>
    obtain ⟨f, k, rfl, hf, HX, hJs, HK⟩ := hrel
    obtain ⟨w0, rfl⟩ : ∃ w0, w0 = wr := ⟨_, rfl⟩
    have hBr : w0.cell? ⟨Bn, 0, none⟩ = some (.slice A l.length c) := Boxed.cell (t := 26) (HK.out.2.trans hBn)
    by_cases hlt : f < l.length
    · have hd := decide_eq_true (show (f : Int) < (l.length : Int) by omega)
      gi_wp2
      gi_loopw [4] (fun p wr => ∃ t : Nat, p = .int .i64 (t : Int) ∧ f < t ∧ t ≤ l.length ∧ Aside (runs (l.drop f) = runF (t - f) (l.getD f 0) (l.drop t)) ∧ J (List.range k) wr ∧ Aside (KE n₀ Bn w0 wr))
        (fun p _ => l.length - (intOf p).toNat)
      case atStart => exact ⟨f + 1, by simp, by omega, by omega, Lib.hid (by rw [runs_drop l f hlt, show f + 1 - f = 1 by omega]), hJs, Lib.hid ⟨Below.refl _ _, rfl⟩⟩
      case round =>
        obtain ⟨t, rfl, ht1, ht2, HX2, hJ2, HK2⟩ := hrel
        have hB2 : wr.cell? ⟨Bn, 0, none⟩ = some (.slice A l.length c) := Boxed.cell (t := 26) (HK2.out.2.trans (HK.out.2.trans hBn))
        have hr2 := reads_n0 HR.out (HK.out.1.trans HK2.out.1) hbl
        obtain ⟨ad, eA, hcf⟩ := hr2.at_ (f : Int) (by omega) (by omega)
        cases eA
        rw [Int.toNat_natCast] at hcf
        have p3 : (0 ≤ (f : Int)) = True := eq_true (by omega)
        have p4 : ((f : Int) < (l.length : Int)) = True := eq_true (by omega)
        by_cases hgo : t < l.length ∧ l.getD t 0 = l.getD f 0
        · obtain ⟨hlt2, hx⟩ := hgo
          have hd2 := decide_eq_true (show (t : Int) < (l.length : Int) by omega)
          obtain ⟨ad', eA, hct⟩ := hr2.at_ (t : Int) (by omega) (by omega)
          cases eA
          rw [Int.toNat_natCast] at hct
          have p1 : (0 ≤ (t : Int)) = True := eq_true (by omega)
          have p2 : ((t : Int) < (l.length : Int)) = True := eq_true (by omega)
          have hbq : (rd l (t : Int) == rd l (f : Int)) = true := beq_iff_eq.mpr hx
          clear hr2
          gi_wp2
          refine wpIn_wide.2 ?_
          go_region
          gi_wp2
          go_roundw
          case rel => exact ⟨t + 1, by simp, by omega, by omega, Lib.hid (by rw [HX2.out, runF_same l (t - f) t _ hlt2 hx, show t + 1 - f = t - f + 1 by omega]), hJ _ _ _ none hJ2 (gdrew (World.grownBy.refl _ _)) (by simp), Lib.hid ⟨below_drew HK2.out.1, HK2.out.2⟩⟩
          case measure => simp [intOf]; omega
        · have HF : runs l = (List.range k).map (runAt l) ++ (t - f, l.getD f 0) :: runs (l.drop t) := by
            rw [HX.out, HX2.out]
            by_cases hlt2 : t < l.length
            · rw [runF_other l _ t _ hlt2 (fun e => hgo ⟨hlt2, e⟩)]
            · rw [runF_end l _ t _ hlt2]
          obtain ⟨hat, hkl⟩ := runAt_of HF
          have hHF := Lib.hid HF
          clear HF
          obtain ⟨fn, tmps, assign, body, hy, hR⟩ := hY (List.range k) k wr.drew (hJ _ _ _ none hJ2 (gdrew (World.grownBy.refl _ _)) (by simp)) (by simp; exact hkl)
          rw [hat] at hy
          dsimp only at hy
          rw [show ((t - f : Nat) : Int) = (t : Int) - (f : Int) by omega, show l.getD f 0 = rd l (f : Int) from rfl] at hy
          clear hat
          by_cases hlt2 : t < l.length
          · have hd2 := decide_eq_true (show (t : Int) < (l.length : Int) by omega)
            obtain ⟨ad', eA, hct⟩ := hr2.at_ (t : Int) (by omega) (by omega)
            cases eA
            rw [Int.toNat_natCast] at hct
            have p1 : (0 ≤ (t : Int)) = True := eq_true (by omega)
            have p2 : ((t : Int) < (l.length : Int)) = True := eq_true (by omega)
            have hbq : (rd l (t : Int) == rd l (f : Int)) = false := beq_eq_false_iff_ne.mpr (fun e => hgo ⟨hlt2, e⟩)
            clear hr2
            gi_wp2
            refine wpIn_wide.2 ?_
            go_region
            gi_wp2
            refine hR.mono ?_
            rintro e W3 (⟨rfl, hJ3, hk3⟩ | ⟨rfl, hJx3⟩)
            · gi_wp2
              go_roundw
              case rel => exact ⟨t, k + 1, rfl, by omega, Lib.hid (by rw [hHF.out, List.range_succ, List.map_append, List.map_singleton, (runAt_of hHF.out).1, List.append_assoc]; rfl), by rw [List.range_succ]; exact hJ3, Lib.hid (HK.out.t (KE.t ⟨below_drew HK2.out.1, HK2.out.2⟩ hk3))⟩
              case measure => simp [intOf]; omega
            · gi_wp2
              refine bodyPost_ret (results_none rfl _ _ _) rfl ?_
              exact ⟨⟨_, rfl⟩, .inr ⟨_, ⟨k + 1, hkl, (List.range_succ).symm⟩, hJx3⟩⟩
          · have hd2 := decide_eq_false (show ¬ (t : Int) < (l.length : Int) by omega)
            clear hr2
            gi_wp2
            refine wpIn_wide.2 ?_
            go_region
            gi_wp2
            refine hR.mono ?_
            rintro e W3 (⟨rfl, hJ3, hk3⟩ | ⟨rfl, hJx3⟩)
            · gi_wp2
              go_roundw
              case rel => exact ⟨t, k + 1, rfl, by omega, Lib.hid (by rw [hHF.out, List.range_succ, List.map_append, List.map_singleton, (runAt_of hHF.out).1, List.append_assoc]; rfl), by rw [List.range_succ]; exact hJ3, Lib.hid (HK.out.t (KE.t ⟨below_drew HK2.out.1, HK2.out.2⟩ hk3))⟩
              case measure => simp [intOf]; omega
            · gi_wp2
              refine bodyPost_ret (results_none rfl _ _ _) rfl ?_
              exact ⟨⟨_, rfl⟩, .inr ⟨_, ⟨k + 1, hkl, (List.range_succ).symm⟩, hJx3⟩⟩
    · have hd := decide_eq_false (show ¬ (f : Int) < (l.length : Int) by omega)
      gi_wp2
      go_end0
      have e0 : List.range k = List.range (runs l).length := by
        have := HX.out
        rw [List.drop_of_length_le (by omega)] at this
        have h2 := congrArg List.length this
        rw [List.length_append, List.length_map, List.length_range] at h2
        rw [h2]
        rfl
      exact ⟨⟨_, rfl⟩, .inl ⟨_, rfl, e0 ▸ hJs⟩⟩
theorem each_stops (n : Nat) (hn : 1 ≤ n) (Bn n₀ : Nat) (A : Option Addr) (c : Nat) (l : List Int) (hc : l.length ≤ c) (hbl : ∀ ad, A = some ad → 0 < l.length → ad.block < n₀) (hsm : l.length ≤ 1000000000) (w : World)
    (hBn : w.heap[Bn]? = some (.cells #[.slice A l.length c] 26 (0, 0))) (hn0 : n₀ ≤ w.heap.size) (hr : ReadsInt w .u8 A l.length l) :
    SeqStopsK Fence.wide n Try.prog 46 #[.pointer (some ⟨Bn, 0, none⟩)] (fun x : Nat => #[Value.int .i64 ((runAt l x).1 : Int), .int .u8 (runAt l x).2]) (KE n₀ Bn) (fun ys => ys = List.range (runs l).length)
      (fun pre => ∃ k, k ≤ (runs l).length ∧ pre = List.range k) (runs l).length w := fun L J Jx W hW hJ _ hY h0 =>
  each1_calls n hn L Bn n₀ A c l hc hbl hsm J Jx W hJ hY ((hW.block Bn (Array.getElem?_eq_some_iff.1 hBn).1).trans hBn) (Nat.le_trans hn0 hW.size) (hr.below hW) h0
end Go.Proofs.Ytkecppgodmbmlaa.RU

namespace Go.Proofs.Ytkecppgodmbmlaa.RU
open Go.RowKit Go.Shelf Go.Proofs.YtkecppgodmbmlaaW.PrintWords Go.Proofs.YtkecppgodmbmlaaW.PrintLast Go.Proofs.YtkecppgodmbmlaaW.PrintMore Go.Proofs.Ytkecppgodmbmlaa.CD Go.Proofs.Ytkecppgodmbmlaa.BR
attribute [local go_sem] Oper.semAt_some
set_option linter.unusedVariables false
set_option linter.unusedSimpArgs false
def laid (l : List Int) (pre : List Nat) : List Int := rBytes (pre.map (runAt l))
theorem laid_snoc (l : List Int) (pre : List Nat) (x : Nat) : laid l (pre ++ [x]) = laid l pre ++ num (runAt l x).1 ++ [(runAt l x).2] := by
  unfold laid rBytes; simp
theorem laid_len (l : List Int) : ∀ pre : List Nat, (laid l pre).length ≤ 11 * pre.length
  | [] => by simp [laid, rBytes]
  | x :: pre => by
    have h1 := laid_len l pre
    have h2 := num_le (runAt l x).1
    have e : laid l (x :: pre) = num (runAt l x).1 ++ [(runAt l x).2] ++ laid l pre := by unfold laid rBytes; simp
    rw [e, List.length_append, List.length_append, List.length_cons, List.length_cons, List.length_nil]
    omega
theorem runF_le : ∀ (l : List Int) (n : Nat) (x : Int), ∀ p ∈ runF n x l, p.1 ≤ n + l.length
  | [], n, x, p, h => by simp [runF] at h; subst h; simp
  | y :: l, n, x, p, h => by
    simp only [runF] at h
    split at h
    · have := runF_le l (n + 1) x p h
      simp only [List.length_cons]; omega
    · rcases List.mem_cons.1 h with rfl | h
      · simp only [List.length_cons]; omega
      · have := runF_le l 1 y p h
        simp only [List.length_cons]; omega
theorem runs_le (l : List Int) (p : Nat × Int) (h : p ∈ runs l) : p.1 ≤ l.length := by
  cases l with
  | nil => cases h
  | cons x l => have := runF_le l 1 x p h; simp only [List.length_cons]; omega
theorem runAt_le (l : List Int) (x : Nat) : (runAt l x).1 ≤ l.length := by
  unfold runAt
  by_cases h : x < (runs l).length
  · rw [List.getD_eq_getElem?_getD, List.getElem?_eq_getElem h]
    exact runs_le l _ (List.getElem_mem h)
  · rw [List.getD_eq_getElem?_getD, List.getElem?_eq_none (by omega)]; simp
theorem keeps_below {W W' : World} (h : Below W.heap.size W W') : KeepsOthers W W' := KeepsOthers.of_grownBy (gofBelow (row := none) h) (fun j o e => by cases e)
set_option maxRecDepth 100000 in
set_option maxHeartbeats 2000000 in
theorem rput_calls (A : Option Addr) (c : Nat) (l : List Int) (w : World) (hr : ReadsInt w .u8 A l.length l) (hc : l.length ≤ c) (hsm : l.length ≤ 1000000000) (hbl : ∀ ad, A = some ad → 0 < l.length → ad.block < w.heap.size) :
    Calls Try.prog 22 #[.slice A l.length c] w fun e w' => ∃ v, e = .returned v ∧ OB w' w.heap.size v (row l) ∧ Below w.heap.size w w' := by
  obtain ⟨i0, hi, hz0, hz1, hz2⟩ := info_parts infoU8
  refine (callsIn_wide (n := 9)).1 ?_
  refine callsIn_of_wp_marks Try.func22 rfl trivial ?_ rfl
  simp only [Try.ntmps22, List.size_toArray, List.length_cons, List.length_nil, Nat.reduceAdd, Nat.reduceSub, Array.replicate_succ, Array.replicate_zero, List.push_toArray, List.append_toArray, List.nil_append, List.cons_append]
  gi_wp2_with (refine ⟨trivial, ?_⟩; gi_at_call 37; refine (callsIn_wide.2 (each_calls _ _ _ _)).mono ?_; rintro e w' ⟨rfl, rfl⟩)
  have bO := Boxed.new w 26 (.slice none 0 0)
  have bN := Boxed.new (w.alloc (.cells #[.slice none 0 0] 26)) 26 (.slice A l.length c)
  rw [World.size_alloc] at bN
  have hB0 : Below w.heap.size w ((w.alloc (.cells #[.slice none 0 0] 26)).alloc (.cells #[.slice A l.length c] 26)) := ((Below.refl _ w).alloc (Nat.le_refl _) _).alloc (by simp) _
  obtain ⟨w0, hw0⟩ : ∃ w0, w0 = (w.alloc (.cells #[.slice none 0 0] 26)).alloc (.cells #[.slice A l.length c] 26) := ⟨_, rfl⟩
  have hs0 : w0.heap.size = w.heap.size + 1 + 1 := by rw [hw0]; simp
  have bO := bO.alloc (.cells #[.slice A l.length c] 26)
  rw [← hw0] at bO bN hB0 ⊢
  have HR := Lib.hid (hr.below hB0)
  clear hr hw0
  refine wpIn_rangeFunc_ownF (F := Fence.wide) (n := 9) rfl (by decide) (gf := 46) (lb := #[.pointer (some ⟨w.heap.size + 1, 0, none⟩)]) rfl trivial (enters_of Try.func46 (by kernel_rfl) rfl)
    (each_stops 8 (by decide) (w.heap.size + 1) w.heap.size A c l hc hbl hsm w0 bN (by omega) HR.out) (fun h k => h.t k) (KE.b (by omega) (by omega)) (Below.refl _ _) (fun _ => rfl)
    (fun pre W => ((∃ v, Boxed W w.heap.size 26 v ∧ W.ownsRow w.heap.size 5 1 v (laid l pre).length (nums .u8 (laid l pre)) ∧ True) ∧ w0.heap.size ≤ W.heap.size) ∧ Below w.heap.size w W)
    (fun _ _ _ => False)
    (OwnFrom.and (OwnFrom.and (Own.from (holdsRow_own w.heap.size w.heap.size 26 5 1 (fun pre => (laid l pre).length) (fun pre => nums .u8 (laid l pre)) (fun _ _ => True)) _) (fun s X Y row hs hg hr => Nat.le_trans hs hg.size)) (ownFrom_below (Nat.le_refl _) (by omega)))
    (fun _ _ _ _ _ hs _ _ => hs)
    ⟨⟨⟨_, bO, World.ownsRow_nil _ _ _ _, trivial⟩, Nat.le_refl _⟩, hB0⟩
    (fun x => { tmps := #[.slice A l.length c, undef, .pointer (some ⟨w.heap.size, 0, none⟩), .int .i64 ((runAt l x).1 : Int), .int .u8 (runAt l x).2, .slice A l.length c, .func (.func 46) #[] #[.pointer (some ⟨w.heap.size + 1, 0, none⟩)], .int .i64 ((runAt l x).1 : Int), .int .u8 (runAt l x).2, undef, undef, undef, undef, undef, undef, undef, undef], defers := [] }) ?assign ?body ?done ?stop
  case assign =>
    intro L x W K hK
    gi_wp2
    exact hK
  case body =>
    rintro L pre x W ⟨⟨⟨v, hv, hrow, _⟩, hsW⟩, hB⟩ hlt
    have hc0 := hv.cell
    have hf0 := hv.frozen
    have hn := runAt_le l x
    have hll := laid_len l pre
    have hN := runs_len l
    have hww : IntKind.u64.wrap ((runAt l x).1 : Int) = ((runAt l x).1 : Int) := CF.wu64_id _ (by omega) (by omega)
    obtain ⟨Ab, cb, rfl, hcb, hrb⟩ := OB.slice (show OB W w.heap.size v (laid l pre) from hrow)
    have HV := Lib.hid hv
    have HP := Lib.hid (BP.put_calls Ab cb (laid l pre) (runAt l x).1 W hrb hcb (by omega) (by omega))
    have HB := Lib.hid hB
    clear hrow hB hrb hcb hv
    have hnl := num_le (runAt l x).1
    obtain ⟨acc, hacc⟩ : ∃ acc, laid l pre ++ num (runAt l x).1 = acc := ⟨_, rfl⟩
    have hal : acc.length ≤ 11 * pre.length + 10 := by rw [← hacc, List.length_append]; omega
    have HA := Lib.hid hacc
    rw [hacc] at HP
    clear hacc
    gi_wp2_with (first
      | (refine ⟨trivial, ?_⟩; gi_at_call 23; refine (CallsIn.inRound L (callsIn_wide.2 HP.out)).mono ?_; rintro e w1 ⟨v1, rfl, ho1, hb1⟩; have HO1 := Lib.hid ho1; have HB1 := Lib.hid hb1; clear ho1 hb1)
      | (gi_at_builtin; refine wpListIn_append_own _ rfl _ _ 26 rfl W.heap.size 5 i0 (.int .u8 0) 1 1 Try.underlying26 hi hz0 hz1 hz2 rfl (by decide) v1 acc.length (nums .u8 acc) rfl (OB.below HO1.out (below_alloc (Below.refl _ _) _)) ⟨w1.heap.size, 0, none⟩ 1 1 [.int .u8 (runAt l x).2] rfl rfl (cell_one_new _ _ _) (by simp [Value.oneCell']) (by show acc.length + 1 ≤ 9223372036854775807; omega) (by omega) (by have := HB1.out.size; simp; omega) ?_; intro v2 w2 hown2 hgrow _; obtain ⟨g2, cap2, rfl⟩ := ownsRow_succ hown2; have HOW := Lib.hid hown2; have HGR := Lib.hid hgrow; clear hown2 hgrow; have hbw2 : Below W.heap.size W w2 := (HB1.out.alloc HB1.out.size _).grown HGR.out (by have := HB1.out.size; simp; omega) (fun k e => own_base HO1.out k e); have hv2 : Boxed w2 w.heap.size 26 (.slice Ab (laid l pre).length cb) := (hbw2.block w.heap.size (by omega)).trans HV.out; have hc2 := hv2.cell; have hf2 := hv2.frozen; have HB2 := Lib.hid hbw2; have HV2 := Lib.hid hv2; clear hbw2 hv2))
    have hge : W.heap.size ≤ g2 := own_base HOW.out g2 rfl
    refine ⟨(keeps_below HB2.out).trans (KeepsOthers.setCell _ _ _), ⟨(show Below w.heap.size W w2 from HB2.out.mono (by omega)).setCell (p := ⟨w.heap.size, 0, none⟩) (Nat.le_refl _) _, (Below.heap_setCell w2 ⟨w.heap.size, 0, none⟩ _ (w.heap.size + 1) (by simp)).trans (HB2.out.block (w.heap.size + 1) (by omega))⟩, ⟨⟨_, HV2.out.set _, ?_, trivial⟩, ?_⟩, (HB.out.trans (show Below w.heap.size W w2 from HB2.out.mono (by omega))).setCell (p := ⟨w.heap.size, 0, none⟩) (Nat.le_refl _) _⟩
    · rw [laid_snoc, HA.out, nums_append, List.length_append]
      exact own_setCell (own_less HOW.out (by omega)) (p := ⟨w.heap.size, 0, none⟩) (by show some w.heap.size ≠ some g2; intro e; injection e; omega) _
    · have := HB2.out.size
      simp [World.setCell]; omega
  case done =>
    rintro D ys W hD rfl ⟨⟨⟨v, hv, hrow, _⟩, hsW⟩, hB⟩ hK
    obtain ⟨Ab, cb, rfl, hcb, hrb⟩ := OB.slice (show OB W w.heap.size v (laid l (List.range (runs l).length)) from hrow)
    have hc0 := hv.cell
    have hf0 := hv.frozen
    gi_wp2
    have hK' := (KeepsOthers.setCell W ⟨w.heap.size, 0, none⟩ (.slice Ab (laid l (List.range (runs l).length)).length cb)).same D _ hK rfl
    refine ⟨by simp, .inl ⟨_, _, rfl, run_takeDeferred hK', ?_⟩⟩
    have hc5 := cell_kept (World.cell?_setCell_same' W ⟨w.heap.size, 0, none⟩ (.slice Ab (laid l (List.range (runs l).length)).length cb) (by rw [hc0]; rfl)) (grownBy_putObj' _ D (.deferred none)) (fun r e => by cases e; exact ⟨_, hK', rfl⟩)
    have erow : laid l (List.range (runs l).length) = row l := by unfold laid row; rw [runs_all]
    refine ⟨.slice Ab (laid l (List.range (runs l).length)).length cb, by simp [results, Try.f22, go_sem, hc5], _, rfl, ?_, (hB.setCell (p := ⟨w.heap.size, 0, none⟩) (Nat.le_refl _) _).trans (belowK_b (w := w0) (by omega) _ D _ _ hD hK' rfl rfl)⟩
    have h1 : (W.setCell ⟨w.heap.size, 0, none⟩ (.slice Ab (laid l (List.range (runs l).length)).length cb)).ownsRow w.heap.size 5 1 (.slice Ab (laid l (List.range (runs l).length)).length cb) (laid l (List.range (runs l).length)).length (nums .u8 (laid l (List.range (runs l).length))) :=
      own_setCell hrow (p := ⟨w.heap.size, 0, none⟩) (hv.not_row (by decide) hrow) _
    have h2 := ownsRow_putObj h1 (.deferred none) hK' rfl
    rw [erow] at h2 ⊢
    exact h2
  case stop =>
    rintro D c pre W _ _ h _
    exact h.elim
theorem row_len (l : List Int) : (row l).length ≤ 11 * l.length := by
  have h1 := laid_len l (List.range (runs l).length)
  have e : laid l (List.range (runs l).length) = row l := by unfold laid row; rw [runs_all]
  rw [e, List.length_range] at h1
  have := runs_len l
  omega
end Go.Proofs.Ytkecppgodmbmlaa.RU

namespace Go.Proofs.Ytkecppgodmbmlaa.PK
open Go.RowKit Go.Proofs.YtkecppgodmbmlaaW.PrintWords Go.Proofs.YtkecppgodmbmlaaW.PrintLast Go.Proofs.YtkecppgodmbmlaaW.PrintMore Go.Proofs.Ytkecppgodmbmlaa.CD Go.Proofs.Ytkecppgodmbmlaa.BR
set_option linter.unusedVariables false
set_option linter.unusedSimpArgs false
structure Inv (w W : World) (mb cb lb : Nat) (C L : List Pr) (i : Nat) (v5 : Value) : Prop where
  below : Below w.heap.size w W
  pal : Pal W mb (codes (C.take i)).1
  own : OB W w.heap.size v5 (pBytes (codes (C.take i)).1)
  ne : ∀ k, v5.ownBlock = some k → k ≠ mb ∧ k ≠ cb ∧ k ≠ lb
  cel : OB W w.heap.size (.slice (some ⟨cb, 0, none⟩) 4096 4096) ((codes (C.take i)).2 ++ List.replicate (4096 - i) 0)
  lig : OB W w.heap.size (.slice (some ⟨lb, 0, none⟩) 4096 4096) ((L.take i).map lcode ++ List.replicate (4096 - i) 0)
  lt : lb < W.heap.size
theorem u8_wrap (n : Int) (h0 : 0 ≤ n) (h1 : n < 256) : IntKind.u8.wrap n = n := by
  obtain ⟨a, rfl⟩ := Int.eq_ofNat_of_zero_le h0
  have : ∀ a < 256, IntKind.u8.wrap ((a : Nat) : Int) = ((a : Nat) : Int) := by decide +kernel
  exact this a (by omega)
theorem light_bits (s l : Int) (h : 0 ≤ s ∧ s ≤ 15) (h' : 0 ≤ l ∧ l ≤ 15) : bits .or .u8 (s * 16 % 256) l = s * 16 + l := by
  obtain ⟨a, rfl⟩ := Int.eq_ofNat_of_zero_le h.1
  obtain ⟨b, rfl⟩ := Int.eq_ofNat_of_zero_le h'.1
  have : ∀ a < 16, ∀ b < 16, bits .or .u8 (((a : Nat) : Int) * 16 % 256) ((b : Nat) : Int) = ((a : Nat) : Int) * 16 + ((b : Nat) : Int) := by decide +kernel
  exact this a (by omega) b (by omega)
structure Inv2 (w W : World) (mb cb lb : Nat) (C L : List Pr) (i : Nat) (v5 : Value) : Prop where
  below : Below w.heap.size w W
  pal : Pal W mb (codes (C.take (i + 1))).1
  own : OB W w.heap.size v5 (pBytes (codes (C.take (i + 1))).1)
  ne : ∀ k, v5.ownBlock = some k → k ≠ mb ∧ k ≠ cb ∧ k ≠ lb
  cel : OB W w.heap.size (.slice (some ⟨cb, 0, none⟩) 4096 4096) ((codes (C.take (i + 1))).2 ++ List.replicate (4096 - (i + 1)) 0)
  lig : OB W w.heap.size (.slice (some ⟨lb, 0, none⟩) 4096 4096) ((L.take i).map lcode ++ List.replicate (4096 - i) 0)
  lt : lb < W.heap.size
theorem set_mid (O : List Int) (k : Nat) (x : Int) (i : Nat) (hi : O.length = i) : (O ++ List.replicate (k + 1) 0).set i x = (O ++ [x]) ++ List.replicate k 0 := by
  rw [List.set_append_right _ _ (by omega), hi, Nat.sub_self, List.replicate_succ, List.set_cons_zero, List.append_assoc]
  rfl
theorem take_next (l : List Pr) (i : Nat) (h : i < l.length) : l.take (i + 1) = l.take i ++ [l.getD i P0] := by
  rw [List.take_add_one, List.getD_eq_getElem?_getD, List.getElem?_eq_getElem h]; rfl
theorem row_set {W : World} {base b : Nat} {l : List Int} (h : OB W base (.slice (some ⟨b, 0, none⟩) 4096 4096) l) (hl : l.length = 4096) (i : Nat) (x : Int) : OB (W.setCell ⟨b, i, none⟩ (.int .u8 x)) base (.slice (some ⟨b, 0, none⟩) 4096 4096) (l.set i x) := by
  have h' : OB W base (.slice (some ⟨b, 0, none⟩) l.length 4096) l := by rw [hl]; exact h
  have := h'.store i x
  rw [List.length_set, hl] at this
  exact this
theorem row_cell {W : World} {base b : Nat} {l : List Int} (h : OB W base (.slice (some ⟨b, 0, none⟩) 4096 4096) l) (hl : l.length = 4096) (i : Nat) (hi : i < 4096) : W.cell? ⟨b, i, none⟩ = some (.int .u8 (rd l i)) ∧ W.frozen? ⟨b, i, none⟩ = false := by
  have h' : OB W base (.slice (some ⟨b, 0, none⟩) l.length 4096) l := by rw [hl]; exact h
  exact h'.at_ i (by omega)
theorem own_far {W : World} {base : Nat} {v : Value} {l : List Int} (h : OB W base v l) {p : Addr} (hne : some p.block ≠ v.ownBlock) (u : Value) : OB (W.setCell p u) base v l := own_setCell h hne u
section
variable {w W : World} {mb cb lb : Nat} {C L : List Pr} {i : Nat} {v5 : Value}
theorem Inv.lenC (h : Inv w W mb cb lb C L i v5) (hC : C.length = 4096) (hi : i < 4096) : ((codes (C.take i)).2 ++ List.replicate (4096 - i) 0).length = 4096 := by
  rw [List.length_append, codes_len, List.length_take, List.length_replicate]; omega
theorem lenL (hL : L.length = 4096) (hi : i < 4096) : ((L.take i).map lcode ++ List.replicate (4096 - i) 0).length = 4096 := by
  rw [List.length_append, List.length_map, List.length_take, List.length_replicate]; omega
theorem pal_kept {W W' : World} {b : Nat} {P : List Pr} (h : Pal W b P) {row : Option Nat} (hg : W.grownBy W' row) (hne : some b ≠ row) : Pal W' b P := (hg.block b (Array.getElem?_eq_some_iff.1 h).1 hne).trans h
theorem g_set (W : World) (b i : Nat) (v : Value) : W.grownBy (W.setCell ⟨b, i, none⟩ v) (some b) := gset (World.grownBy.refl _ _) i v
theorem inv_some (h : Inv w W mb cb lb C L i v5) (hC : C.length = 4096) (hi : i < 4096) (hmc : mb ≠ cb) (hcl : cb ≠ lb) (hw : w.heap.size ≤ cb) (j : Nat) (X : Obj) (hk : lk 0 (codes (C.take i)).1 (C.getD i P0) = some j) :
    Inv2 w ((W.alloc X).setCell ⟨cb, i, none⟩ (.int .u8 (j : Int))) mb cb lb C L i v5 := by
  have hc : codes (C.take (i + 1)) = ((codes (C.take i)).1, (codes (C.take i)).2 ++ [(j : Int)]) := by
    rw [take_next C i (by omega), codes_snoc]
    unfold stepP
    rw [hk]
  have hal : Below W.heap.size W (W.alloc X) := below_alloc (Below.refl _ _) _
  refine ⟨(below_alloc h.below X).setCell (p := ⟨cb, i, none⟩) hw _, ?_, ?_, h.ne, ?_, ?_, ?_⟩
  · rw [hc]; exact pal_kept (pal_kept h.pal (gofBelow (row := none) hal) (by simp)) (g_set _ _ _ _) (fun e => hmc (by injection e))
  · rw [hc]; exact own_far (OB.below h.own hal) (fun e => (h.ne cb e.symm).2.1 rfl) _
  · rw [hc]
    have := row_set (OB.below h.cel hal) (h.lenC hC hi) i (j : Int)
    rw [show 4096 - i = (4096 - (i + 1)) + 1 by omega, set_mid _ _ _ _ (by rw [codes_len, List.length_take]; omega)] at this
    exact this
  · exact own_far (OB.below h.lig hal) (fun e => hcl (by injection e)) _
  · simp [World.setCell]; have := h.lt; omega
theorem inv_none_cel {W' : World} {v6 : Value} (h : Inv w W mb cb lb C L i v5) (hC : C.length = 4096) (hi : i < 4096) (hmc : mb ≠ cb) (hcl : cb ≠ lb) (hml : mb ≠ lb) (hw : w.heap.size ≤ cb) (hwm : w.heap.size ≤ mb) (hml2 : mb < W.heap.size) (X Y : Obj)
    (hk : lk 0 (codes (C.take i)).1 (C.getD i P0) = none)
    (hown : OB W' w.heap.size v6 (pBytes (codes (C.take i)).1 ++ [(C.getD i P0).1, (C.getD i P0).2])) (hb : Below w.heap.size w W')
    (hg : ((setB (W.alloc X) mb (.map (ents 0 ((codes (C.take i)).1 ++ [C.getD i P0])).toArray ((codes (C.take i)).1.length + 1))).alloc Y).grownBy W' v5.ownBlock)
    (hat : v6.ownBlock = v5.ownBlock ∨ ∃ b, v6.ownBlock = some b ∧ (setB (W.alloc X) mb (.map (ents 0 ((codes (C.take i)).1 ++ [C.getD i P0])).toArray ((codes (C.take i)).1.length + 1))).heap.size ≤ b) :
    OB W' w.heap.size (.slice (some ⟨cb, 0, none⟩) 4096 4096) ((codes (C.take i)).2 ++ List.replicate (4096 - i) 0) := by
  have hc : codes (C.take (i + 1)) = ((codes (C.take i)).1 ++ [C.getD i P0], (codes (C.take i)).2 ++ [((codes (C.take i)).1.length : Int)]) := by
    rw [take_next C i (by omega), codes_snoc]
    unfold stepP
    rw [hk]
  have hal : Below W.heap.size W (W.alloc X) := below_alloc (Below.refl _ _) _
  obtain ⟨W2, hW2⟩ : ∃ W2, setB (W.alloc X) mb (.map (ents 0 ((codes (C.take i)).1 ++ [C.getD i P0])).toArray ((codes (C.take i)).1.length + 1)) = W2 := ⟨_, rfl⟩
  have hp1 : Pal (W.alloc X) mb (codes (C.take i)).1 := pal_kept h.pal (gofBelow (row := none) hal) (by simp)
  have hp2 : Pal W2 mb ((codes (C.take i)).1 ++ [C.getD i P0]) := by rw [← hW2]; exact pal_upd hp1 _
  have hs2 : W2.heap.size = W.heap.size + 1 := by rw [← hW2]; simp [setB]
  have hg2 : (W.alloc X).grownBy W2 (some mb) := by
    rw [← hW2]
    exact ⟨rfl, rfl, rfl, by simp [setB], fun k hk hne => by simp only [setB]; rw [Array.getElem?_setIfInBounds_ne (fun e => hne (by rw [e]))]⟩
  rw [hW2] at hg hat
  have hgY : W2.grownBy W' v5.ownBlock := (World.grownBy_alloc W2 Y _).trans hg
  have hsz := hgY.size
  have hc2 : OB W2 w.heap.size (.slice (some ⟨cb, 0, none⟩) 4096 4096) ((codes (C.take i)).2 ++ List.replicate (4096 - i) 0) := own_other (OB.below h.cel hal) hg2 (.inr (fun e => hmc (by injection e with e; exact e.symm)))
  have hl2 : OB W2 w.heap.size (.slice (some ⟨lb, 0, none⟩) 4096 4096) ((L.take i).map lcode ++ List.replicate (4096 - i) 0) := own_other (OB.below h.lig hal) hg2 (.inr (fun e => hml (by injection e with e; exact e.symm)))
  have hc3 : OB W' w.heap.size (.slice (some ⟨cb, 0, none⟩) 4096 4096) ((codes (C.take i)).2 ++ List.replicate (4096 - i) 0) := own_other hc2 hgY (.inr (fun e => (h.ne cb e.symm).2.1 rfl))
  exact hc3
theorem inv_none {W' : World} {v6 : Value} (h : Inv w W mb cb lb C L i v5) (hC : C.length = 4096) (hi : i < 4096) (hmc : mb ≠ cb) (hcl : cb ≠ lb) (hml : mb ≠ lb) (hw : w.heap.size ≤ cb) (hwm : w.heap.size ≤ mb) (hml2 : mb < W.heap.size) (X Y : Obj)
    (hk : lk 0 (codes (C.take i)).1 (C.getD i P0) = none)
    (hown : OB W' w.heap.size v6 (pBytes (codes (C.take i)).1 ++ [(C.getD i P0).1, (C.getD i P0).2])) (hb : Below w.heap.size w W')
    (hg : ((setB (W.alloc X) mb (.map (ents 0 ((codes (C.take i)).1 ++ [C.getD i P0])).toArray ((codes (C.take i)).1.length + 1))).alloc Y).grownBy W' v5.ownBlock)
    (hat : v6.ownBlock = v5.ownBlock ∨ ∃ b, v6.ownBlock = some b ∧ (setB (W.alloc X) mb (.map (ents 0 ((codes (C.take i)).1 ++ [C.getD i P0])).toArray ((codes (C.take i)).1.length + 1))).heap.size ≤ b) :
    Inv2 w (W'.setCell ⟨cb, i, none⟩ (.int .u8 ((codes (C.take i)).1.length : Int))) mb cb lb C L i v6 := by
  have hc : codes (C.take (i + 1)) = ((codes (C.take i)).1 ++ [C.getD i P0], (codes (C.take i)).2 ++ [((codes (C.take i)).1.length : Int)]) := by
    rw [take_next C i (by omega), codes_snoc]
    unfold stepP
    rw [hk]
  have hal : Below W.heap.size W (W.alloc X) := below_alloc (Below.refl _ _) _
  obtain ⟨W2, hW2⟩ : ∃ W2, setB (W.alloc X) mb (.map (ents 0 ((codes (C.take i)).1 ++ [C.getD i P0])).toArray ((codes (C.take i)).1.length + 1)) = W2 := ⟨_, rfl⟩
  have hp1 : Pal (W.alloc X) mb (codes (C.take i)).1 := pal_kept h.pal (gofBelow (row := none) hal) (by simp)
  have hp2 : Pal W2 mb ((codes (C.take i)).1 ++ [C.getD i P0]) := by rw [← hW2]; exact pal_upd hp1 _
  have hs2 : W2.heap.size = W.heap.size + 1 := by rw [← hW2]; simp [setB]
  have hg2 : (W.alloc X).grownBy W2 (some mb) := by
    rw [← hW2]
    exact ⟨rfl, rfl, rfl, by simp [setB], fun k hk hne => by simp only [setB]; rw [Array.getElem?_setIfInBounds_ne (fun e => hne (by rw [e]))]⟩
  rw [hW2] at hg hat
  have hgY : W2.grownBy W' v5.ownBlock := (World.grownBy_alloc W2 Y _).trans hg
  have hsz := hgY.size
  have hc2 : OB W2 w.heap.size (.slice (some ⟨cb, 0, none⟩) 4096 4096) ((codes (C.take i)).2 ++ List.replicate (4096 - i) 0) := own_other (OB.below h.cel hal) hg2 (.inr (fun e => hmc (by injection e with e; exact e.symm)))
  have hl2 : OB W2 w.heap.size (.slice (some ⟨lb, 0, none⟩) 4096 4096) ((L.take i).map lcode ++ List.replicate (4096 - i) 0) := own_other (OB.below h.lig hal) hg2 (.inr (fun e => hml (by injection e with e; exact e.symm)))
  have hc3 : OB W' w.heap.size (.slice (some ⟨cb, 0, none⟩) 4096 4096) ((codes (C.take i)).2 ++ List.replicate (4096 - i) 0) := own_other hc2 hgY (.inr (fun e => (h.ne cb e.symm).2.1 rfl))
  have hl3 : OB W' w.heap.size (.slice (some ⟨lb, 0, none⟩) 4096 4096) ((L.take i).map lcode ++ List.replicate (4096 - i) 0) := own_other hl2 hgY (.inr (fun e => (h.ne lb e.symm).2.2 rfl))
  have hp3 : Pal W' mb ((codes (C.take i)).1 ++ [C.getD i P0]) := pal_kept hp2 hgY (fun e => (h.ne mb e.symm).1 rfl)
  have hcs : cb < W.heap.size := own_lt h.cel cb rfl
  have hls := h.lt
  have hne6 : ∀ k, v6.ownBlock = some k → k ≠ mb ∧ k ≠ cb ∧ k ≠ lb := by
    intro k hk6
    rcases hat with e | ⟨b, e, hb6⟩
    · exact h.ne k (by rw [← e]; exact hk6)
    · rw [hk6] at e
      injection e with e
      omega
  refine ⟨hb.setCell (p := ⟨cb, i, none⟩) hw _, ?_, ?_, hne6, ?_, ?_, ?_⟩
  · rw [hc]; exact pal_kept hp3 (g_set _ _ _ _) (fun e => hmc (by injection e))
  · rw [hc]
    simp only
    rw [pBytes_snoc]
    exact own_far hown (fun e => (hne6 cb e.symm).2.1 rfl) _
  · rw [hc]
    have := row_set hc3 (h.lenC hC hi) i ((codes (C.take i)).1.length : Int)
    rw [show 4096 - i = (4096 - (i + 1)) + 1 by omega, set_mid _ _ _ _ (by rw [codes_len, List.length_take]; omega)] at this
    exact this
  · exact own_far hl3 (fun e => hcl (by injection e)) _
  · simp [World.setCell]; omega
theorem inv_light (h : Inv2 w W mb cb lb C L i v5) (hL : L.length = 4096) (hi : i < 4096) (hml : mb ≠ lb) (hcl : cb ≠ lb) (hw : w.heap.size ≤ lb) (x : Int) (hx : x = lcode (L.getD i P0)) :
    Inv w ((W.setCell ⟨lb, i, none⟩ (.int .u8 x)).drew) mb cb lb C L (i + 1) v5 := by
  subst hx
  show Inv w (W.drew.setCell ⟨lb, i, none⟩ (.int .u8 (lcode (L.getD i P0)))) mb cb lb C L (i + 1) v5
  have hd : Below W.heap.size W W.drew := below_drew (Below.refl _ _)
  refine ⟨(below_drew h.below).setCell (p := ⟨lb, i, none⟩) hw _, ?_, ?_, h.ne, ?_, ?_, ?_⟩
  · exact pal_kept (pal_kept h.pal (gofBelow (row := none) hd) (by simp)) (g_set _ _ _ _) (fun e => hml (by injection e))
  · exact own_far (OB.below h.own hd) (fun e => (h.ne lb e.symm).2.2 rfl) _
  · exact own_far (OB.below h.cel hd) (fun e => hcl (by injection e with e; exact e.symm)) _
  · have := row_set (OB.below h.lig hd) (lenL hL hi) i (lcode (L.getD i P0))
    rw [show 4096 - i = (4096 - (i + 1)) + 1 by omega, set_mid _ _ _ _ (by rw [List.length_map, List.length_take]; omega)] at this
    rw [take_next L i (by omega), List.map_append]
    exact this
  · simp [World.setCell]; exact h.lt
end
end Go.Proofs.Ytkecppgodmbmlaa.PK

namespace Go.Proofs.Ytkecppgodmbmlaa.PK
open Go.RowKit Go.Proofs.YtkecppgodmbmlaaW.PrintWords Go.Proofs.YtkecppgodmbmlaaW.PrintLast Go.Proofs.YtkecppgodmbmlaaW.PrintMore Go.Proofs.Ytkecppgodmbmlaa.CD Go.Proofs.Ytkecppgodmbmlaa.BR
set_option linter.unusedVariables false
set_option linter.unusedSimpArgs false
set_option maxRecDepth 100000 in
theorem pput_nil (w : World) : Calls Try.prog 12 #[.pointer none] w fun e w' => e = .returned (.tuple #[.slice none 0 0, .int .i64 1]) ∧ w' = w := by
  go_enter Try.func12, Try.ntmps12
  go_wp2
  go_ret2
  exact ⟨rfl, rfl⟩
set_option maxRecDepth 100000 in
theorem pput_no (g : Nat) (C L T : List Pr) (A : Option Addr) (c : Nat) (w : World) (h : Chunk w g C L (.slice A T.length c)) (hT : Kd.C kT w A T.length T) (hC : U8 C) (hL : U8 L) (hlT : T.length ≤ 140737488355328) (hm : mayB C L T = false) :
    Calls Try.prog 12 #[.pointer (some ⟨g, 0, none⟩)] w fun e w' => e = .returned (.tuple #[.slice none 0 0, .int .i64 2]) ∧ Below w.heap.size w w' := by
  have HM := Lib.hid (pmay_calls g C L T A c w h hT hC hL hlT)
  rw [hm] at HM
  clear h hT hC hL hm
  go_enter Try.func12, Try.ntmps12
  go_wp2_with fail
  refine HM.out.mono ?_; rintro e w1 ⟨rfl, hb1⟩
  have HB1 := Lib.hid hb1
  clear hb1
  go_wp2
  go_ret2
  exact ⟨rfl, HB1.out⟩
set_option maxHeartbeats 4000000 in
set_option maxRecDepth 100000 in
theorem pput_calls (g : Nat) (C L T : List Pr) (A : Option Addr) (c : Nat) (w : World) (h : Chunk w g C L (.slice A T.length c)) (hT : Kd.C kT w A T.length T) (hC : U8 C) (hL : U8 L) (hlT : T.length ≤ 1000000) (hm : mayB C L T = true) :
    Calls Try.prog 12 #[.pointer (some ⟨g, 0, none⟩)] w fun e w' => ∃ v, e = .returned (.tuple #[v, .int .i64 0]) ∧ OB w' w.heap.size v (packB C L T) ∧ Below w.heap.size w w' := by
  have HM := Lib.hid (pmay_calls g C L T A c w h hT hC hL (by omega))
  rw [hm] at HM
  have H := Lib.hid h
  have HT := Lib.hid hT
  have HC := Lib.hid hC
  have HL := Lib.hid hL
  have hmm : mayB C L T = true := hm
  unfold mayB at hmm
  rw [Bool.and_eq_true, List.all_eq_true] at hmm
  have HK := Lib.hid (fun i (hi : i < 4096) => hmm.1 i (List.mem_range.2 hi))
  have HTO := Lib.hid hmm.2
  have hidx := Lib.hid (fun (i : Nat) (hi : i < 4096) (W : World) => run_index C h.lenC i hi W)
  have hmk : ∀ W : World, (Instr.makeSlice 26 (.int .i64 4096) (.int .i64 4096)).run Try.prog W = .ok (.slice (some ⟨W.heap.size, 0, none⟩) 4096 4096) (W.alloc (.cells (madeCells #[.int .u8 0] 4096) 5)) :=
    print_make (P := Try.prog) 26 5 .u8 1 Try.underlying26 infoU8 (by decide) 4096 (by decide)
  have hmp : ∀ W : World, (Instr.makeMap 60 none).run Try.prog W = .ok (.map (some W.heap.size)) (W.alloc (.map #[] 0)) := fun W => by kernel_rfl
  clear h hT hC hL hm hmm
  go_enter Try.func12, Try.ntmps12
  go_wp2_with fail
  refine HM.out.mono ?_; rintro e w1 ⟨rfl, hb1⟩
  have HB1 := Lib.hid hb1
  have HCH := Lib.hid (fun W (h : Below w1.heap.size w1 W) => (H.out.below (below_step hb1 h) H.out.lt))
  have hs1 := hb1.size
  clear hb1
  go_wp2_with (refine load_cells (g := g) (C := C) (L := L) (v := .slice A T.length c) (HCH.out _ (by repeat (first | exact Below.refl _ _ | apply below_alloc))) rfl ?_)
  clear hmk hmp
  go_loopw [5, 29] (fun pv iv W => ∃ i : Nat, i ≤ 4096 ∧ iv = .int .i64 (i : Int) ∧ Aside0 (Inv w W w1.heap.size (w1.heap.size + 1 + 1) (w1.heap.size + 1 + 1 + 1) C L i pv)) (fun _ iv _ => 4096 - (intOf iv).toNat)
  case atStart =>
    refine ⟨0, by omega, rfl, ⟨⟨below_alloc (below_alloc (below_alloc (below_alloc HB1.out _) _) _) _, ?_, ?_, ?_, ?_, ?_, by simp⟩⟩⟩
    · exact blk_below (blk_new w1 _) (below_alloc (below_alloc (below_alloc (Below.refl _ _) _) _) _)
    · have h := OB.empty (w1.alloc (.map #[] 0)) w.heap.size (by simp; omega)
      rw [World.size_alloc] at h
      exact OB.below h (below_alloc (below_alloc (Below.refl _ _) _) _)
    · intro k hk
      injection hk with hk
      simp only at hk
      omega
    · have h := own_made ((w1.alloc (.map #[] 0)).alloc (.cells #[] 5)) w.heap.size 5 .u8 4096 (by simp; omega) (by decide)
      rw [World.size_alloc, World.size_alloc] at h
      exact OB.below (l := List.replicate 4096 0) (by unfold OB; rw [List.length_replicate]; exact h) (below_alloc (Below.refl _ _) _)
    · have h := own_made (((w1.alloc (.map #[] 0)).alloc (.cells #[] 5)).alloc (.cells (madeCells #[.int .u8 0] 4096) 5)) w.heap.size 5 .u8 4096 (by simp; omega) (by decide)
      rw [World.size_alloc, World.size_alloc, World.size_alloc] at h
      show OB _ _ _ (List.replicate 4096 0)
      unfold OB; rw [List.length_replicate]; exact h
  case round =>
    obtain ⟨i, hi, rfl, ⟨hinv⟩⟩ := hrel
    have HI := Lib.hid hinv
    clear hinv
    by_cases hlt : i < 4096
    · have hd := decide_eq_true (show (i : Int) < 4096 by omega)
      have hix := hidx.out i hlt
      obtain ⟨⟨k, l⟩, hci⟩ : ∃ q, C.getD i P0 = q := ⟨_, rfl⟩
      rw [hci] at hix
      have Hci := Lib.hid hci
      clear hci
      obtain ⟨⟨sk, la⟩, hli⟩ : ∃ q, L.getD i P0 = q := ⟨_, rfl⟩
      have Hli := Lib.hid hli
      have HS : Hid ((0 ≤ sk ∧ sk ≤ 15) ∧ 0 ≤ la ∧ la ≤ 15) := Lib.hid (by
        have h1 := HL.out.at_ i (by rw [H.out.lenL]; exact hlt)
        have h2 := HK.out i hlt
        unfold okAt at h2
        rw [Bool.and_eq_true, Bool.and_eq_true] at h2
        have h3 := of_decide_eq_true h2.2.1
        have h4 := of_decide_eq_true h2.2.2
        rw [hli] at h1 h3 h4
        exact ⟨⟨h1.1.1, h3⟩, h1.2.1, h4⟩)
      clear hli
      have hcl : w1.heap.size + 1 + 1 < wr.heap.size := own_lt HI.out.cel _ rfl
      have hcn : ¬ w1.heap.size + 1 + 1 = wr.heap.size := by omega
      obtain ⟨z0, z1⟩ := row_cell HI.out.cel (HI.out.lenC H.out.lenC hlt) i hlt
      cases hk : lk 0 (codes (C.take i)).1 (k, l) with
      | some j =>
        have hlk : (Instr.lookup 60 (.map (some w1.heap.size)) (.agg #[.int .u8 k, .int .u8 l]) true).run Try.prog (wr.alloc (.cells #[.int .u8 k, .int .u8 l] 34)) = .ok (.tuple #[.int .u8 (j : Int), .bool true]) (wr.alloc (.cells #[.int .u8 k, .int .u8 l] 34)) := by
          have := run_look (pal_kept HI.out.pal (gofBelow (row := none) (below_alloc (Below.refl _ _) (.cells #[.int .u8 k, .int .u8 l] 34))) (by simp)) (k, l)
          rw [hk] at this
          exact this
        have p1 : (0 ≤ (i : Int)) = True := eq_true (by omega)
        have p2 : ((i : Int) < 4096) = True := eq_true (by omega)
        have J : Inv2 w ((wr.alloc (.cells #[.int .u8 k, .int .u8 l] 34)).setCell ⟨w1.heap.size + 1 + 1, i, none⟩ (.int .u8 (j : Int))) w1.heap.size (w1.heap.size + 1 + 1) (w1.heap.size + 1 + 1 + 1) C L i u5 := inv_some HI.out H.out.lenC hlt (by omega) (by omega) (by omega) j _ (by rw [Hci.out]; exact hk)
        rw [World.setCell_alloc_past _ _ _ _ hcl] at J
        clear hk
        go_wp2_with fail
        generalize hW2 : (wr.setCell ⟨w1.heap.size + 1 + 1, i, none⟩ (.int .u8 (j : Int))).alloc (.cells #[.int .u8 k, .int .u8 l] 34) = W2 at J ⊢
        clear hW2
        have HJ := Lib.hid J
        have hch := H.out.below J.below H.out.lt
        obtain ⟨l0, l1⟩ := hch.atL i hlt
        rw [Hli.out] at l0 l1
        simp only at l0 l1
        obtain ⟨t0, t1⟩ := row_cell J.lig (lenL H.out.lenL hlt) i hlt
        clear J hch
        refine start_ (n := 20) (S := fun w' => w'.cell? ⟨g, 8192 + i * 2, none⟩ = some (.int .u8 sk) ∧ w'.cell? ⟨g, 8192 + i * 2 + 1, none⟩ = some (.int .u8 la)) (ds := [19]) #[false, false, false, false, false, false, false, false, false, false, false, false, false, false, false, false, false, false, false, false] (by kernel_rfl) rfl rfl ⟨l0, l1⟩ (fun hHeld => ?_)
        refine pure_ (i := 0) (N := some 58) (v := ?_) (a' := ?_) #[true, false, false, false, false, false, false, false, false, false, false, false, false, false, false, false, false, false, false, false] rfl rfl (by kernel_rfl) (fun _ _ _ h => h) (Or.inl ⟨by rfl, ?_⟩) ?_ ?_
        rotate_left
        · intro w'
          go_simp
          with_reducible rfl
        rotate_left
        · simp only [Act.put, List.setIfInBounds_toArray, List.set_cons_zero, List.set_cons_succ, i64_w, i32_w]
          rfl
        refine pure_ (i := 1) (N := some 59) (v := ?_) (a' := ?_) #[true, true, false, false, false, false, false, false, false, false, false, false, false, false, false, false, false, false, false, false] rfl rfl (by kernel_rfl) (fun _ _ _ h => h) (Or.inl ⟨by rfl, ?_⟩) ?_ ?_
        rotate_left
        · intro w'
          go_simp
          with_reducible rfl
        rotate_left
        · simp only [Act.put, List.setIfInBounds_toArray, List.set_cons_zero, List.set_cons_succ, i64_w, i32_w]
          rfl
        refine pure_ (i := 2) (N := some 60) (v := ?_) (a' := ?_) #[true, true, true, false, false, false, false, false, false, false, false, false, false, false, false, false, false, false, false, false] rfl rfl (by kernel_rfl) (fun _ _ _ h => h) (Or.inl ⟨by rfl, ?_⟩) ?_ ?_
        rotate_left
        · intro w'
          go_simp
          with_reducible rfl
        rotate_left
        · simp only [Act.put, List.setIfInBounds_toArray, List.set_cons_zero, List.set_cons_succ, i64_w, i32_w]
          rfl
        refine pure_ (i := 3) (N := some 61) (v := ?_) (a' := ?_) #[true, true, true, true, false, false, false, false, false, false, false, false, false, false, false, false, false, false, false, false] rfl rfl (by kernel_rfl) (fun _ _ _ h => h) (Or.inl ⟨by rfl, ?_⟩) ?_ ?_
        rotate_left
        · intro w'
          go_simp
          with_reducible rfl
        rotate_left
        · simp only [Act.put, List.setIfInBounds_toArray, List.set_cons_zero, List.set_cons_succ, i64_w, i32_w]
          rfl
        refine pure_ (i := 4) (N := some 62) (v := ?_) (a' := ?_) #[true, true, true, true, true, false, false, false, false, false, false, false, false, false, false, false, false, false, false, false] rfl rfl (by kernel_rfl) (fun _ _ _ h => h) (Or.inl ⟨by rfl, ?_⟩) ?_ ?_
        rotate_left
        · intro w'
          go_simp
          with_reducible rfl
        rotate_left
        · simp only [Act.put, List.setIfInBounds_toArray, List.set_cons_zero, List.set_cons_succ, i64_w, i32_w]
          rfl
        refine pure_ (i := 5) (N := some 63) (v := ?_) (a' := ?_) #[true, true, true, true, true, true, false, false, false, false, false, false, false, false, false, false, false, false, false, false] rfl rfl (by kernel_rfl) (fun _ _ _ h => h) (Or.inl ⟨by rfl, ?_⟩) ?_ ?_
        rotate_left
        · intro w'
          go_simp
          with_reducible rfl
        rotate_left
        · simp only [Act.put, List.setIfInBounds_toArray, List.set_cons_zero, List.set_cons_succ, i64_w, i32_w]
          rfl
        refine pure_ (i := 6) (N := some 64) (v := ?_) (a' := ?_) #[true, true, true, true, true, true, true, false, false, false, false, false, false, false, false, false, false, false, false, false] rfl rfl (by kernel_rfl) (fun _ _ _ h => h) (Or.inl ⟨by rfl, ?_⟩) ?_ ?_
        rotate_left
        · intro w'
          go_simp
          with_reducible rfl
        rotate_left
        · simp only [Act.put, List.setIfInBounds_toArray, List.set_cons_zero, List.set_cons_succ, i64_w, i32_w]
          rfl
        refine pure_ (i := 7) (N := some 65) (v := ?_) (a' := ?_) #[true, true, true, true, true, true, true, true, false, false, false, false, false, false, false, false, false, false, false, false] rfl rfl (by kernel_rfl) (fun _ _ _ h => h) (Or.inl ⟨by rfl, ?_⟩) ?_ ?_
        rotate_left
        · intro w'
          go_simp
          with_reducible rfl
        rotate_left
        · simp only [Act.put, List.setIfInBounds_toArray, List.set_cons_zero, List.set_cons_succ, i64_w, i32_w]
          rfl
        refine pure_ (i := 10) (N := some 68) (v := ?_) (a' := ?_) #[true, true, true, true, true, true, true, true, false, false, true, false, false, false, false, false, false, false, false, false] rfl rfl (by kernel_rfl) (fun _ _ _ h => h) (Or.inl ⟨by rfl, ?_⟩) ?_ ?_
        rotate_left
        · intro w'
          go_simp
          with_reducible rfl
        rotate_left
        · simp only [Act.put, List.setIfInBounds_toArray, List.set_cons_zero, List.set_cons_succ, i64_w, i32_w]
          rfl
        refine pure_ (i := 11) (N := some 69) (v := ?_) (a' := ?_) #[true, true, true, true, true, true, true, true, false, false, true, true, false, false, false, false, false, false, false, false] rfl rfl (by kernel_rfl) (fun _ _ _ h => h) (Or.inl ⟨by rfl, ?_⟩) ?_ ?_
        rotate_left
        · intro w'
          go_simp
          with_reducible rfl
        rotate_left
        · simp only [Act.put, List.setIfInBounds_toArray, List.set_cons_zero, List.set_cons_succ, i64_w, i32_w]
          rfl
        refine pure_ (i := 12) (N := some 70) (v := ?_) (a' := ?_) #[true, true, true, true, true, true, true, true, false, false, true, true, true, false, false, false, false, false, false, false] rfl rfl (by kernel_rfl) (fun _ _ _ h => h) (Or.inl ⟨by rfl, ?_⟩) ?_ ?_
        rotate_left
        · intro w'
          go_simp
          with_reducible rfl
        rotate_left
        · simp only [Act.put, List.setIfInBounds_toArray, List.set_cons_zero, List.set_cons_succ, i64_w, i32_w]
          rfl
        refine pure_ (i := 13) (N := some 71) (v := ?_) (a' := ?_) #[true, true, true, true, true, true, true, true, false, false, true, true, true, true, false, false, false, false, false, false] rfl rfl (by kernel_rfl) (fun _ _ _ h => h) (Or.inl ⟨by rfl, ?_⟩) ?_ ?_
        rotate_left
        · intro w'
          go_simp
          with_reducible rfl
        rotate_left
        · simp only [Act.put, List.setIfInBounds_toArray, List.set_cons_zero, List.set_cons_succ, i64_w, i32_w]
          rfl
        refine pure_ (i := 14) (N := some 72) (v := ?_) (a' := ?_) #[true, true, true, true, true, true, true, true, false, false, true, true, true, true, true, false, false, false, false, false] rfl rfl (by kernel_rfl) (fun _ _ _ h => h) (Or.inl ⟨by rfl, ?_⟩) ?_ ?_
        rotate_left
        · intro w'
          go_simp
          with_reducible rfl
        rotate_left
        · simp only [Act.put, List.setIfInBounds_toArray, List.set_cons_zero, List.set_cons_succ, i64_w, i32_w]
          rfl
        refine pure_ (i := 15) (N := some 73) (v := ?_) (a' := ?_) #[true, true, true, true, true, true, true, true, false, false, true, true, true, true, true, true, false, false, false, false] rfl rfl (by kernel_rfl) (fun _ _ _ h => h) (Or.inl ⟨by rfl, ?_⟩) ?_ ?_
        rotate_left
        · intro w'
          go_simp
          with_reducible rfl
        rotate_left
        · simp only [Act.put, List.setIfInBounds_toArray, List.set_cons_zero, List.set_cons_succ, i64_w, i32_w]
          rfl
        refine take_ (i := 8) (N := some 66) (v := ?_) (a' := ?_) #[true, true, true, true, true, true, true, true, true, false, true, true, true, true, true, true, false, false, false, false] rfl rfl (by kernel_rfl) (fun _ _ _ h => h) (Or.inl ⟨by rfl, ?_⟩) hHeld ?_ ?_
        rotate_left
        · rintro w' ⟨s0, s1⟩
          go_simp
          with_reducible rfl
        rotate_left
        · simp only [Act.put, List.setIfInBounds_toArray, List.set_cons_zero, List.set_cons_succ, i64_w, i32_w]
          rfl
        refine pure_ (i := 9) (N := some 67) (v := ?_) (a' := ?_) #[true, true, true, true, true, true, true, true, true, true, true, true, true, true, true, true, false, false, false, false] rfl rfl (by kernel_rfl) (fun _ _ _ h => h) (Or.inl ⟨by rfl, ?_⟩) ?_ ?_
        rotate_left
        · intro w'
          go_simp
          with_reducible rfl
        rotate_left
        · simp only [Act.put, List.setIfInBounds_toArray, List.set_cons_zero, List.set_cons_succ, i64_w, i32_w]
          rfl
        refine take_ (i := 16) (N := some 74) (v := ?_) (a' := ?_) #[true, true, true, true, true, true, true, true, true, true, true, true, true, true, true, true, true, false, false, false] rfl rfl (by kernel_rfl) (fun _ _ _ h => h) (Or.inl ⟨by rfl, ?_⟩) hHeld ?_ ?_
        rotate_left
        · rintro w' ⟨s0, s1⟩
          go_simp
          with_reducible rfl
        rotate_left
        · simp only [Act.put, List.setIfInBounds_toArray, List.set_cons_zero, List.set_cons_succ, i64_w, i32_w]
          rfl
        refine pure_ (i := 17) (N := some 75) (v := ?_) (a' := ?_) #[true, true, true, true, true, true, true, true, true, true, true, true, true, true, true, true, true, true, false, false] rfl rfl (by kernel_rfl) (fun _ _ _ h => h) (Or.inl ⟨by rfl, ?_⟩) ?_ ?_
        rotate_left
        · intro w'
          go_simp
          with_reducible rfl
        rotate_left
        · simp only [Act.put, List.setIfInBounds_toArray, List.set_cons_zero, List.set_cons_succ, i64_w, i32_w]
          rfl
        refine pure_ (i := 18) (N := some 76) (v := ?_) (a' := ?_) #[true, true, true, true, true, true, true, true, true, true, true, true, true, true, true, true, true, true, true, false] rfl rfl (by kernel_rfl) (fun _ _ _ h => h) (Or.inl ⟨by rfl, ?_⟩) ?_ ?_
        rotate_left
        · intro w'
          go_simp
          with_reducible rfl
        rotate_left
        · simp only [Act.put, List.setIfInBounds_toArray, List.set_cons_zero, List.set_cons_succ, i64_w, i32_w]
          rfl
        refine last_ (i := 19) (N := none) #[true, true, true, true, true, true, true, true, true, true, true, true, true, true, true, true, true, true, true, true] rfl rfl (by kernel_rfl) (by decide) (fun K hK => ?_)
        refine skip_ (w1 := ?_) (by rfl) rfl ?_ ?_
        rotate_left
        · go_simp
          rfl
        refine hK.out _ _ ?_
        clear hK K
        refine done_ (by kernel_rfl) ?_
        go_wp2
        go_roundw
        case rel => exact ⟨i + 1, by omega, by go_num, ⟨inv_light HJ.out H.out.lenL hlt (by omega) (by omega) (by omega) _ (by rw [Hli.out]; exact light_bits sk la HS.out.1 HS.out.2)⟩⟩
        case measure => simp [intOf]; omega
      | none =>
        obtain ⟨P, hP⟩ : ∃ P, (codes (C.take i)).1 = P := ⟨_, rfl⟩
        have hpal : Pal wr w1.heap.size P := by rw [← hP]; exact HI.out.pal
        have hown5 : OB wr w.heap.size u5 (pBytes P) := by rw [← hP]; exact HI.out.own
        have hPl : P.length ≤ 240 := by
          rw [← hP]
          refine pal_small _ (fun p hp => ?_) (fun p hp => HC.out p (List.mem_of_mem_take hp))
          obtain ⟨q, hq, rfl⟩ := List.getElem_of_mem (List.mem_of_mem_take hp)
          have := HK.out q (by have := H.out.lenC; omega)
          unfold okAt at this
          rw [Bool.and_eq_true, List.getD_eq_getElem?_getD, List.getElem?_eq_getElem hq] at this
          exact this.1
        rw [hP] at hk
        have hal : Below wr.heap.size wr (wr.alloc (.cells #[.int .u8 k, .int .u8 l] 34)) := below_alloc (Below.refl _ _) _
        have hpal1 : Pal (wr.alloc (.cells #[.int .u8 k, .int .u8 l] 34)) w1.heap.size P := pal_kept hpal (gofBelow (row := none) hal) (by simp)
        have hlk : (Instr.lookup 60 (.map (some w1.heap.size)) (.agg #[.int .u8 k, .int .u8 l]) true).run Try.prog (wr.alloc (.cells #[.int .u8 k, .int .u8 l] 34)) = .ok (.tuple #[.int .u8 0, .bool false]) (wr.alloc (.cells #[.int .u8 k, .int .u8 l] 34)) := by
          have := run_look hpal1 (k, l)
          rw [hk] at this
          exact this
        have hlen := fun ty => run_len hpal1 ty
        have hwu : IntKind.u8.wrap (P.length : Int) = (P.length : Int) := u8_wrap _ (by omega) (by omega)
        have hwu2 : (P.length : Int) % 256 = (P.length : Int) := by omega
        obtain ⟨W2, hW2⟩ : ∃ W2, setB (wr.alloc (.cells #[.int .u8 k, .int .u8 l] 34)) w1.heap.size (.map (ents 0 (P ++ [(k, l)])).toArray (P.length + 1)) = W2 := ⟨_, rfl⟩
        have hup : (Instr.mapUpdate 60 (.map (some w1.heap.size)) (.agg #[.int .u8 k, .int .u8 l]) (.int .u8 (P.length : Int))).run Try.prog (wr.alloc (.cells #[.int .u8 k, .int .u8 l] 34)) = .ok () W2 := by rw [← hW2]; exact run_upd hpal1 (k, l) hk
        have hs2 : W2.heap.size = wr.heap.size + 1 := by rw [← hW2]; simp [setB]
        have hg2 : (wr.alloc (.cells #[.int .u8 k, .int .u8 l] 34)).grownBy W2 (some w1.heap.size) := by
          rw [← hW2]
          exact ⟨rfl, rfl, rfl, by simp [setB], fun k hk hne => by simp only [setB]; rw [Array.getElem?_setIfInBounds_ne (fun e => hne (by rw [e]))]⟩
        have hxb := blk_grown (blk_new wr (.cells #[.int .u8 k, .int .u8 l] 34)) hg2 (fun e => by injection e with e; omega)
        have x0 := blk_cell hxb 0
        have x1 := blk_cell hxb 1
        simp only [List.getElem?_toArray, List.getElem?_cons_succ, List.getElem?_cons_zero] at x0 x1
        have HO2 : Hid (OB W2 w.heap.size u5 (pBytes P)) := Lib.hid (own_other (OB.below hown5 hal) hg2 (.inr (fun e => (HI.out.ne _ e).1 rfl)))
        have HB2 : Hid (Below w.heap.size w W2) := Lib.hid ((below_alloc HI.out.below _).grown hg2 (by have := HI.out.below.size; simp; omega) (fun k e => by injection e with e; omega))
        have hpl := pBytes_len P
        have HS2 := Lib.hid hs2
        have Hk := Lib.hid hk
        have HP := Lib.hid hP
        have HW2 := Lib.hid hW2
        have p1 : (0 ≤ (i : Int)) = True := eq_true (by omega)
        have p2 : ((i : Int) < 4096) = True := eq_true (by omega)
        clear hk hP hpal hown5 hal hpal1 hW2 hg2 hxb hs2
        go_upto_region 17 with (at_builtin; refine print_append_row (w0 := w) w.heap.size rfl (.tmp 47) (.tmp 52) 26 5 .u8 1 rfl Try.underlying26 infoU8 (by decide) u5 (pBytes P) [k, l] (some ⟨W2.heap.size, 0, none⟩) 2 2 rfl rfl (by exact OB.below HO2.out (below_alloc (Below.refl _ _) _)) (own_reads' (n := 2) (own_lit W2 W2.heap.size 5 .u8 [k, l] (Nat.le_refl _) (by simp))) (below_alloc HB2.out _) (by have := HB2.out.size; simp; omega) (by omega) ?_; intro v6 w6 hown6 hb6 hg6 hat6; have HO6 := Lib.hid hown6; have HB6 := Lib.hid hb6; have HG6 := Lib.hid hg6; have HA6 := Lib.hid hat6; clear hown6 hb6 hg6 hat6)
        clear hlen hlk hup x0 x1
        have hat : v6.ownBlock = u5.ownBlock ∨ ∃ b, v6.ownBlock = some b ∧ W2.heap.size ≤ b := by
          rcases HA6.out with h | ⟨b, h, hb⟩
          · exact .inl h
          · exact .inr ⟨b, h, by rw [World.size_alloc] at hb; omega⟩
        have hc6 := inv_none_cel HI.out H.out.lenC hlt (by omega) (by omega) (by omega) (by omega) (by omega) (by omega) (.cells #[.int .u8 k, .int .u8 l] 34) (.cells #[.int .u8 k, .int .u8 l] 5) (by rw [HP.out, Hci.out]; exact Hk.out) (by rw [HP.out, Hci.out]; exact HO6.out) HB6.out (by rw [HP.out, Hci.out, HW2.out]; exact HG6.out) (by rw [HP.out, Hci.out, HW2.out]; exact hat)
        have hcl6 : w1.heap.size + 1 + 1 < w6.heap.size := own_lt hc6 _ rfl
        obtain ⟨z2, z3⟩ := row_cell hc6 (HI.out.lenC H.out.lenC hlt) i hlt
        have J := inv_none HI.out H.out.lenC hlt (by omega) (by omega) (by omega) (by omega) (by omega) (by omega) (.cells #[.int .u8 k, .int .u8 l] 34) (.cells #[.int .u8 k, .int .u8 l] 5) (by rw [HP.out, Hci.out]; exact Hk.out) (by rw [HP.out, Hci.out]; exact HO6.out) HB6.out (by rw [HP.out, Hci.out, HW2.out]; exact HG6.out) (by rw [HP.out, Hci.out, HW2.out]; exact hat)
        rw [HP.out] at J
        clear hc6 hat
        go_wp2_with fail
        generalize hW3 : w6.setCell ⟨w1.heap.size + 1 + 1, i, none⟩ (.int .u8 (P.length : Int)) = W3 at J ⊢
        clear hW3
        have HJ := Lib.hid J
        have hch := H.out.below J.below H.out.lt
        obtain ⟨l0, l1⟩ := hch.atL i hlt
        rw [Hli.out] at l0 l1
        simp only at l0 l1
        obtain ⟨t0, t1⟩ := row_cell J.lig (lenL H.out.lenL hlt) i hlt
        clear J hch
        refine start_ (n := 20) (S := fun w' => w'.cell? ⟨g, 8192 + i * 2, none⟩ = some (.int .u8 sk) ∧ w'.cell? ⟨g, 8192 + i * 2 + 1, none⟩ = some (.int .u8 la)) (ds := [19]) #[false, false, false, false, false, false, false, false, false, false, false, false, false, false, false, false, false, false, false, false] (by kernel_rfl) rfl rfl ⟨l0, l1⟩ (fun hHeld => ?_)
        refine pure_ (i := 0) (N := some 58) (v := ?_) (a' := ?_) #[true, false, false, false, false, false, false, false, false, false, false, false, false, false, false, false, false, false, false, false] rfl rfl (by kernel_rfl) (fun _ _ _ h => h) (Or.inl ⟨by rfl, ?_⟩) ?_ ?_
        rotate_left
        · intro w'
          go_simp
          with_reducible rfl
        rotate_left
        · simp only [Act.put, List.setIfInBounds_toArray, List.set_cons_zero, List.set_cons_succ, i64_w, i32_w]
          rfl
        refine pure_ (i := 1) (N := some 59) (v := ?_) (a' := ?_) #[true, true, false, false, false, false, false, false, false, false, false, false, false, false, false, false, false, false, false, false] rfl rfl (by kernel_rfl) (fun _ _ _ h => h) (Or.inl ⟨by rfl, ?_⟩) ?_ ?_
        rotate_left
        · intro w'
          go_simp
          with_reducible rfl
        rotate_left
        · simp only [Act.put, List.setIfInBounds_toArray, List.set_cons_zero, List.set_cons_succ, i64_w, i32_w]
          rfl
        refine pure_ (i := 2) (N := some 60) (v := ?_) (a' := ?_) #[true, true, true, false, false, false, false, false, false, false, false, false, false, false, false, false, false, false, false, false] rfl rfl (by kernel_rfl) (fun _ _ _ h => h) (Or.inl ⟨by rfl, ?_⟩) ?_ ?_
        rotate_left
        · intro w'
          go_simp
          with_reducible rfl
        rotate_left
        · simp only [Act.put, List.setIfInBounds_toArray, List.set_cons_zero, List.set_cons_succ, i64_w, i32_w]
          rfl
        refine pure_ (i := 3) (N := some 61) (v := ?_) (a' := ?_) #[true, true, true, true, false, false, false, false, false, false, false, false, false, false, false, false, false, false, false, false] rfl rfl (by kernel_rfl) (fun _ _ _ h => h) (Or.inl ⟨by rfl, ?_⟩) ?_ ?_
        rotate_left
        · intro w'
          go_simp
          with_reducible rfl
        rotate_left
        · simp only [Act.put, List.setIfInBounds_toArray, List.set_cons_zero, List.set_cons_succ, i64_w, i32_w]
          rfl
        refine pure_ (i := 4) (N := some 62) (v := ?_) (a' := ?_) #[true, true, true, true, true, false, false, false, false, false, false, false, false, false, false, false, false, false, false, false] rfl rfl (by kernel_rfl) (fun _ _ _ h => h) (Or.inl ⟨by rfl, ?_⟩) ?_ ?_
        rotate_left
        · intro w'
          go_simp
          with_reducible rfl
        rotate_left
        · simp only [Act.put, List.setIfInBounds_toArray, List.set_cons_zero, List.set_cons_succ, i64_w, i32_w]
          rfl
        refine pure_ (i := 5) (N := some 63) (v := ?_) (a' := ?_) #[true, true, true, true, true, true, false, false, false, false, false, false, false, false, false, false, false, false, false, false] rfl rfl (by kernel_rfl) (fun _ _ _ h => h) (Or.inl ⟨by rfl, ?_⟩) ?_ ?_
        rotate_left
        · intro w'
          go_simp
          with_reducible rfl
        rotate_left
        · simp only [Act.put, List.setIfInBounds_toArray, List.set_cons_zero, List.set_cons_succ, i64_w, i32_w]
          rfl
        refine pure_ (i := 6) (N := some 64) (v := ?_) (a' := ?_) #[true, true, true, true, true, true, true, false, false, false, false, false, false, false, false, false, false, false, false, false] rfl rfl (by kernel_rfl) (fun _ _ _ h => h) (Or.inl ⟨by rfl, ?_⟩) ?_ ?_
        rotate_left
        · intro w'
          go_simp
          with_reducible rfl
        rotate_left
        · simp only [Act.put, List.setIfInBounds_toArray, List.set_cons_zero, List.set_cons_succ, i64_w, i32_w]
          rfl
        refine pure_ (i := 7) (N := some 65) (v := ?_) (a' := ?_) #[true, true, true, true, true, true, true, true, false, false, false, false, false, false, false, false, false, false, false, false] rfl rfl (by kernel_rfl) (fun _ _ _ h => h) (Or.inl ⟨by rfl, ?_⟩) ?_ ?_
        rotate_left
        · intro w'
          go_simp
          with_reducible rfl
        rotate_left
        · simp only [Act.put, List.setIfInBounds_toArray, List.set_cons_zero, List.set_cons_succ, i64_w, i32_w]
          rfl
        refine pure_ (i := 10) (N := some 68) (v := ?_) (a' := ?_) #[true, true, true, true, true, true, true, true, false, false, true, false, false, false, false, false, false, false, false, false] rfl rfl (by kernel_rfl) (fun _ _ _ h => h) (Or.inl ⟨by rfl, ?_⟩) ?_ ?_
        rotate_left
        · intro w'
          go_simp
          with_reducible rfl
        rotate_left
        · simp only [Act.put, List.setIfInBounds_toArray, List.set_cons_zero, List.set_cons_succ, i64_w, i32_w]
          rfl
        refine pure_ (i := 11) (N := some 69) (v := ?_) (a' := ?_) #[true, true, true, true, true, true, true, true, false, false, true, true, false, false, false, false, false, false, false, false] rfl rfl (by kernel_rfl) (fun _ _ _ h => h) (Or.inl ⟨by rfl, ?_⟩) ?_ ?_
        rotate_left
        · intro w'
          go_simp
          with_reducible rfl
        rotate_left
        · simp only [Act.put, List.setIfInBounds_toArray, List.set_cons_zero, List.set_cons_succ, i64_w, i32_w]
          rfl
        refine pure_ (i := 12) (N := some 70) (v := ?_) (a' := ?_) #[true, true, true, true, true, true, true, true, false, false, true, true, true, false, false, false, false, false, false, false] rfl rfl (by kernel_rfl) (fun _ _ _ h => h) (Or.inl ⟨by rfl, ?_⟩) ?_ ?_
        rotate_left
        · intro w'
          go_simp
          with_reducible rfl
        rotate_left
        · simp only [Act.put, List.setIfInBounds_toArray, List.set_cons_zero, List.set_cons_succ, i64_w, i32_w]
          rfl
        refine pure_ (i := 13) (N := some 71) (v := ?_) (a' := ?_) #[true, true, true, true, true, true, true, true, false, false, true, true, true, true, false, false, false, false, false, false] rfl rfl (by kernel_rfl) (fun _ _ _ h => h) (Or.inl ⟨by rfl, ?_⟩) ?_ ?_
        rotate_left
        · intro w'
          go_simp
          with_reducible rfl
        rotate_left
        · simp only [Act.put, List.setIfInBounds_toArray, List.set_cons_zero, List.set_cons_succ, i64_w, i32_w]
          rfl
        refine pure_ (i := 14) (N := some 72) (v := ?_) (a' := ?_) #[true, true, true, true, true, true, true, true, false, false, true, true, true, true, true, false, false, false, false, false] rfl rfl (by kernel_rfl) (fun _ _ _ h => h) (Or.inl ⟨by rfl, ?_⟩) ?_ ?_
        rotate_left
        · intro w'
          go_simp
          with_reducible rfl
        rotate_left
        · simp only [Act.put, List.setIfInBounds_toArray, List.set_cons_zero, List.set_cons_succ, i64_w, i32_w]
          rfl
        refine pure_ (i := 15) (N := some 73) (v := ?_) (a' := ?_) #[true, true, true, true, true, true, true, true, false, false, true, true, true, true, true, true, false, false, false, false] rfl rfl (by kernel_rfl) (fun _ _ _ h => h) (Or.inl ⟨by rfl, ?_⟩) ?_ ?_
        rotate_left
        · intro w'
          go_simp
          with_reducible rfl
        rotate_left
        · simp only [Act.put, List.setIfInBounds_toArray, List.set_cons_zero, List.set_cons_succ, i64_w, i32_w]
          rfl
        refine take_ (i := 8) (N := some 66) (v := ?_) (a' := ?_) #[true, true, true, true, true, true, true, true, true, false, true, true, true, true, true, true, false, false, false, false] rfl rfl (by kernel_rfl) (fun _ _ _ h => h) (Or.inl ⟨by rfl, ?_⟩) hHeld ?_ ?_
        rotate_left
        · rintro w' ⟨s0, s1⟩
          go_simp
          with_reducible rfl
        rotate_left
        · simp only [Act.put, List.setIfInBounds_toArray, List.set_cons_zero, List.set_cons_succ, i64_w, i32_w]
          rfl
        refine pure_ (i := 9) (N := some 67) (v := ?_) (a' := ?_) #[true, true, true, true, true, true, true, true, true, true, true, true, true, true, true, true, false, false, false, false] rfl rfl (by kernel_rfl) (fun _ _ _ h => h) (Or.inl ⟨by rfl, ?_⟩) ?_ ?_
        rotate_left
        · intro w'
          go_simp
          with_reducible rfl
        rotate_left
        · simp only [Act.put, List.setIfInBounds_toArray, List.set_cons_zero, List.set_cons_succ, i64_w, i32_w]
          rfl
        refine take_ (i := 16) (N := some 74) (v := ?_) (a' := ?_) #[true, true, true, true, true, true, true, true, true, true, true, true, true, true, true, true, true, false, false, false] rfl rfl (by kernel_rfl) (fun _ _ _ h => h) (Or.inl ⟨by rfl, ?_⟩) hHeld ?_ ?_
        rotate_left
        · rintro w' ⟨s0, s1⟩
          go_simp
          with_reducible rfl
        rotate_left
        · simp only [Act.put, List.setIfInBounds_toArray, List.set_cons_zero, List.set_cons_succ, i64_w, i32_w]
          rfl
        refine pure_ (i := 17) (N := some 75) (v := ?_) (a' := ?_) #[true, true, true, true, true, true, true, true, true, true, true, true, true, true, true, true, true, true, false, false] rfl rfl (by kernel_rfl) (fun _ _ _ h => h) (Or.inl ⟨by rfl, ?_⟩) ?_ ?_
        rotate_left
        · intro w'
          go_simp
          with_reducible rfl
        rotate_left
        · simp only [Act.put, List.setIfInBounds_toArray, List.set_cons_zero, List.set_cons_succ, i64_w, i32_w]
          rfl
        refine pure_ (i := 18) (N := some 76) (v := ?_) (a' := ?_) #[true, true, true, true, true, true, true, true, true, true, true, true, true, true, true, true, true, true, true, false] rfl rfl (by kernel_rfl) (fun _ _ _ h => h) (Or.inl ⟨by rfl, ?_⟩) ?_ ?_
        rotate_left
        · intro w'
          go_simp
          with_reducible rfl
        rotate_left
        · simp only [Act.put, List.setIfInBounds_toArray, List.set_cons_zero, List.set_cons_succ, i64_w, i32_w]
          rfl
        refine last_ (i := 19) (N := none) #[true, true, true, true, true, true, true, true, true, true, true, true, true, true, true, true, true, true, true, true] rfl rfl (by kernel_rfl) (by decide) (fun K hK => ?_)
        refine skip_ (w1 := ?_) (by rfl) rfl ?_ ?_
        rotate_left
        · go_simp
          rfl
        refine hK.out _ _ ?_
        clear hK K
        refine done_ (by kernel_rfl) ?_
        go_wp2
        go_roundw
        case rel => exact ⟨i + 1, by omega, by go_num, ⟨inv_light HJ.out H.out.lenL hlt (by omega) (by omega) (by omega) _ (by rw [Hli.out]; exact light_bits sk la HS.out.1 HS.out.2)⟩⟩
        case measure => simp [intOf]; omega
    · obtain rfl : i = 4096 := by omega
      have hd := decide_eq_false (show ¬ ((4096 : Nat) : Int) < 4096 by decide)
      obtain ⟨w5, rfl⟩ : ∃ w5, w5 = wr := ⟨_, rfl⟩
      have hinv := HI.out
      have hCt : C.take 4096 = C := List.take_of_length_le (by have := H.out.lenC; omega)
      have hLt : L.take 4096 = L := List.take_of_length_le (by have := H.out.lenL; omega)
      obtain ⟨hbel, hpal, hown5, hne5, hcel, hlig, hlt5⟩ := hinv
      rw [hCt] at hpal hown5 hcel
      rw [hLt] at hlig
      obtain ⟨P, hP⟩ : ∃ P, (codes C).1 = P := ⟨_, rfl⟩
      obtain ⟨O, hO⟩ : ∃ O, (codes C).2 = O := ⟨_, rfl⟩
      obtain ⟨Q, hQ⟩ : ∃ Q, L.map lcode = Q := ⟨_, rfl⟩
      have hOl : O.length = 4096 := by rw [← hO, codes_len]; exact H.out.lenC
      have hQl : Q.length = 4096 := by rw [← hQ, List.length_map]; exact H.out.lenL
      have hPl : P.length ≤ 240 := by
        rw [← hP]
        refine pal_small _ (fun p hp => ?_) HC.out
        obtain ⟨q, hq, rfl⟩ := List.getElem_of_mem hp
        have := HK.out q (by have := H.out.lenC; omega)
        unfold okAt at this
        rw [Bool.and_eq_true, List.getD_eq_getElem?_getD, List.getElem?_eq_getElem hq] at this
        exact this.1
      rw [hP] at hpal hown5
      rw [hO, Nat.sub_self, List.replicate_zero, List.append_nil] at hcel
      rw [hQ, Nat.sub_self, List.replicate_zero, List.append_nil] at hlig
      have hpack : packB C L T = [(P.length : Int)] ++ pBytes P ++ RU.row O ++ RU.row Q ++ num T.length ++ tBytes (-1) T := by unfold packB; rw [hP, hO, hQ]
      have HPK := Lib.hid hpack
      obtain ⟨A5, c5, rfl, hc5, hr5⟩ := OB.slice hown5
      have hpl := pBytes_len P
      have hrO := RU.row_len O
      have hrQ := RU.row_len Q
      have hlen := fun ty => run_len hpal ty
      have hwu : IntKind.u8.wrap (P.length : Int) = (P.length : Int) := u8_wrap _ (by omega) (by omega)
      have hwu2 : (P.length : Int) % 256 = (P.length : Int) := by omega
      have HR5 := Lib.hid hr5
      have hput1 := Lib.hid (fun (W : World) (hb : Below w5.heap.size w5 W) => (by
        have h := RU.rput_calls (some ⟨w1.heap.size + 1 + 1, 0, none⟩) 4096 O W (OB.reads (by rw [hOl]; exact OB.below hcel hb)) (by omega) (by omega) (fun ad e _ => by cases e; exact Nat.lt_of_lt_of_le (own_lt hcel _ rfl) hb.size)
        rw [hOl] at h
        exact h : Calls Try.prog 22 #[.slice (some ⟨w1.heap.size + 1 + 1, 0, none⟩) 4096 4096] W fun e w' => ∃ v, e = .returned v ∧ OB w' W.heap.size v (RU.row O) ∧ Below W.heap.size W w'))
      have hput2 := Lib.hid (fun (W : World) (hb : Below w5.heap.size w5 W) => (by
        have h := RU.rput_calls (some ⟨w1.heap.size + 1 + 1 + 1, 0, none⟩) 4096 Q W (OB.reads (by rw [hQl]; exact OB.below hlig hb)) (by omega) (by omega) (fun ad e _ => by cases e; exact Nat.lt_of_lt_of_le (own_lt hlig _ rfl) hb.size)
        rw [hQl] at h
        exact h : Calls Try.prog 22 #[.slice (some ⟨w1.heap.size + 1 + 1 + 1, 0, none⟩) 4096 4096] W fun e w' => ∃ v, e = .returned v ∧ OB w' W.heap.size v (RU.row Q) ∧ Below W.heap.size W w'))
      have hchb := Lib.hid (fun (W : World) (hb : Below w5.heap.size w5 W) => (H.out.below (hbel.trans (hb.mono hbel.size)) H.out.lt))
      have htk := Lib.hid (fun (W : World) (hb : Below w5.heap.size w5 W) => Kd.C_below HT.out (hbel.trans (hb.mono hbel.size)))
      have HBel := Lib.hid hbel
      clear hbel hpal hown5 hne5 hcel hlig hlt5 hpack hCt hLt hr5 hP hO hQ
      go_wp2_with (at_builtin; refine print_append_row (w0 := w5) w5.heap.size rfl (.tmp 81) (.tmp 82) 26 5 .u8 1 rfl Try.underlying26 infoU8 (by decide) (.slice (some ⟨w5.heap.size, 0, none⟩) 1 1) [(P.length : Int)] (pBytes P) A5 (pBytes P).length c5 rfl rfl (own_lit w5 w5.heap.size 5 .u8 [(P.length : Int)] (Nat.le_refl _) (by simp)) (HR5.out.below (below_alloc (Below.refl _ _) _)) (below_alloc (Below.refl _ _) _) (by simp) (by simp; omega) ?_; intro v8 w8 hown8 hb8 hg8 hat8; have HO8 := Lib.hid hown8; have HB8 := Lib.hid hb8; clear hown8 hb8 hg8 hat8)
      clear hlen
      obtain ⟨a8, ha8⟩ : ∃ a, [(P.length : Int)] ++ pBytes P = a := ⟨_, rfl⟩
      have hl8 : a8.length ≤ 500 := by rw [← ha8, List.length_append, List.length_singleton]; omega
      rw [ha8] at HO8 HPK
      clear ha8
      refine (hput1.out _ HB8.out).mono ?_; rintro e w9 ⟨v9, rfl, ho9, hb9⟩
      obtain ⟨A9, c9, rfl, hc9, hr9⟩ := OB.slice ho9
      have HR9 := Lib.hid hr9
      have HO89 := Lib.hid (OB.below HO8.out hb9)
      have HB9 := Lib.hid (below_step HB8.out hb9)
      have hs9 : w5.heap.size ≤ w9.heap.size := HB9.out.size
      obtain ⟨RO, hRO⟩ : ∃ R, RU.row O = R := ⟨_, rfl⟩
      rw [hRO] at HR9 HPK hrO hc9 ⊢
      clear ho9 hr9 hb9 hRO
      go_wp2_with (at_builtin; refine print_append_row (w0 := w5) w5.heap.size rfl (.tmp 84) (.tmp 86) 26 5 .u8 1 rfl Try.underlying26 infoU8 (by decide) v8 a8 RO A9 RO.length c9 rfl rfl HO89.out HR9.out HB9.out hs9 (by omega) ?_; intro v10 w10 hown10 hb10 hg10 hat10; have HO10 := Lib.hid hown10; have HB10 := Lib.hid hb10; clear hown10 hb10 hg10 hat10)
      obtain ⟨a10, ha10⟩ : ∃ a, a8 ++ RO = a := ⟨_, rfl⟩
      have hl10 : a10.length ≤ 46000 := by rw [← ha10, List.length_append]; omega
      rw [ha10] at HO10 HPK
      clear ha10
      refine (hput2.out _ HB10.out).mono ?_; rintro e w11 ⟨v11, rfl, ho11, hb11⟩
      obtain ⟨A11, c11, rfl, hc11, hr11⟩ := OB.slice ho11
      have HR11 := Lib.hid hr11
      have HO1011 := Lib.hid (OB.below HO10.out hb11)
      have HB11 := Lib.hid (below_step HB10.out hb11)
      have hs11 : w5.heap.size ≤ w11.heap.size := HB11.out.size
      obtain ⟨RQ, hRQ⟩ : ∃ R, RU.row Q = R := ⟨_, rfl⟩
      rw [hRQ] at HR11 HPK hrQ hc11 ⊢
      clear ho11 hr11 hb11 hRQ
      have hwT : IntKind.u64.wrap (T.length : Int) = (T.length : Int) := CF.wu64_id _ (by omega) (by omega)
      go_upto_region 23 with (at_builtin; refine print_append_row (w0 := w5) w5.heap.size rfl (.tmp 88) (.tmp 90) 26 5 .u8 1 rfl Try.underlying26 infoU8 (by decide) v10 a10 RQ A11 RQ.length c11 rfl rfl HO1011.out HR11.out HB11.out hs11 (by omega) ?_; intro v12 w12 hown12 hb12 hg12 hat12; have HO12 := Lib.hid hown12; have HB12 := Lib.hid hb12; clear hown12 hb12 hg12 hat12)
      obtain ⟨a12, ha12⟩ : ∃ a, a10 ++ RQ = a := ⟨_, rfl⟩
      have hl12 : a12.length ≤ 92000 := by rw [← ha12, List.length_append]; omega
      rw [ha12] at HO12 HPK
      clear ha12
      obtain ⟨A12, c12, rfl, hc12, hr12⟩ := OB.slice HO12.out
      have HR12 := Lib.hid hr12
      have ht12 := (hchb.out _ HB12.out).atT
      clear hr12
      go_wp2_with fail
      refine (BP.put_calls A12 c12 a12 T.length w12 HR12.out hc12 (by omega) (by omega)).mono ?_; rintro e w13 ⟨v13, rfl, ho13, hb13⟩
      have HB13 := Lib.hid (below_step HB12.out hb13)
      have HO13 := Lib.hid (own_less ho13 HB12.out.size)
      have ht13 := (hchb.out _ HB13.out).atT
      have hnl := num_le T.length
      clear ho13 hb13 ht12
      go_wp2
      go_loopw [12, 13, 105] (fun bv wv jv W => ∃ (j : Nat) (was : Int) (acc : List Int), j ≤ T.length ∧ wv = .int .i64 was ∧ jv = .int .i64 (j : Int) ∧ (-1 ≤ was ∧ was < 4096) ∧ acc.length ≤ 93000 + 20 * j ∧ Aside0 (OB W w5.heap.size bv acc) ∧ Aside0 (acc ++ tBytes was (T.drop j) = packB C L T) ∧ Aside0 (tOk was (T.drop j) = true) ∧ Aside0 (Below w5.heap.size w5 W)) (fun _ _ jv _ => T.length - (intOf jv).toNat)
      case atStart => exact ⟨0, -1, _, by omega, rfl, rfl, by omega, by rw [List.length_append]; omega, ⟨HO13.out⟩, ⟨HPK.out.symm⟩, ⟨HTO.out⟩, ⟨HB13.out⟩⟩
      case round =>
        obtain ⟨j, was, acc, hj, rfl, rfl, hwas, hacc, ⟨ho⟩, ⟨hpk⟩, ⟨hto⟩, ⟨hb⟩⟩ := hrel
        have HBj := Lib.hid hb
        have HPj := Lib.hid hpk
        have HTj := Lib.hid hto
        obtain ⟨Ab, cb, rfl, hcb, hrb⟩ := OB.slice ho
        have HOj := Lib.hid ho
        have HRb := Lib.hid hrb
        clear hb hpk hto ho hrb
        by_cases hjl : j < T.length
        · have hd2 := decide_eq_true (show (j : Int) < (T.length : Int) by omega)
          obtain ⟨ad, rfl, t0, t1⟩ := tick_at (htk.out _ HBj.out) j hjl
          have hdr : T.drop j = T.getD j P0 :: T.drop (j + 1) := by rw [List.drop_eq_getElem_cons hjl, List.getD_eq_getElem?_getD, List.getElem?_eq_getElem hjl]; rfl
          obtain ⟨⟨ta, td⟩, hti⟩ : ∃ q, T.getD j P0 = q := ⟨_, rfl⟩
          rw [hti] at t0 t1 hdr
          rw [hdr] at HPj HTj
          have hto := HTj.out
          unfold tOk at hto
          rw [Bool.and_eq_true, Bool.and_eq_true, Bool.and_eq_true, Bool.and_eq_true] at hto
          obtain ⟨q1, q2, q3, q4, q5⟩ := hto
          have q1 := of_decide_eq_true q1
          have q2 := of_decide_eq_true q2
          have q3 := of_decide_eq_true q3
          have q4 := of_decide_eq_true q4
          simp only at q1 q2 q3 q4
          obtain ⟨n1, hn1⟩ : ∃ n : Nat, ta - was - 1 = (n : Int) := ⟨(ta - was - 1).toNat, by omega⟩
          obtain ⟨n2, hn2⟩ : ∃ n : Nat, td = (n : Int) := ⟨td.toNat, by omega⟩
          subst hn2
          have e1 : wrap64 (ta - was) = ta - was := by unfold wrap64; omega
          have e2 : wrap64 (ta - was - 1) = ta - was - 1 := by unfold wrap64; omega
          have e3 : IntKind.u64.wrap (ta - was - 1) = (n1 : Int) := by rw [hn1]; exact CF.wu64_id _ (by omega) (by omega)
          have e4 : IntKind.u64.wrap (n2 : Int) = (n2 : Int) := CF.wu64_id _ (by omega) (by omega)
          have hb1 : n1 < 18446744073709551616 := by omega
          have hb2 : n2 < 18446744073709551616 := by omega
          have HS := Lib.hid (show acc ++ num n1 ++ num n2 ++ tBytes ta (T.drop (j + 1)) = packB C L T by
            rw [← HPj.out, tBytes]
            simp only [List.append_assoc]
            rw [hn1, Int.toNat_natCast, Int.toNat_natCast])
          have HQ5 := Lib.hid q5
          have l1 := num_le n1
          have l2 := num_le n2
          have r1 : (0 ≤ (j : Int)) = True := eq_true (by omega)
          have r2 : ((j : Int) < (T.length : Int)) = True := eq_true (by omega)
          have hq : -1 ≤ ta ∧ ta < 4096 := by omega
          clear hdr hti q5 hn1
          go_wp2_with fail
          refine (BP.put_calls Ab cb acc n1 _ (HRb.out.below (below_alloc (Below.refl _ _) _)) hcb hb1 (by omega)).mono ?_; rintro e w14 ⟨v14, rfl, ho14, hb14⟩
          have hx14 := blk_below (blk_new wr (.cells #[.int .i64 ta, .int .i64 (n2 : Int)] 48)) hb14
          have HB14 := Lib.hid (below_step (below_alloc HBj.out _) hb14)
          obtain ⟨a14, ha14⟩ : ∃ a, acc ++ num n1 = a := ⟨_, rfl⟩
          have hl14 : a14.length ≤ acc.length + 10 := by rw [← ha14, List.length_append]; omega
          rw [ha14] at ho14 HS
          obtain ⟨A14, c14, rfl, hc14, hr14⟩ := OB.slice ho14
          have HR14 := Lib.hid hr14
          have HX14 := Lib.hid hx14
          have x0 := blk_cell hx14 0
          have x1 := blk_cell hx14 1
          simp only [List.getElem?_toArray, List.getElem?_cons_succ, List.getElem?_cons_zero] at x0 x1
          clear ho14 hb14 hr14 hx14 ha14
          go_wp2_with fail
          refine (BP.put_calls A14 c14 a14 n2 _ HR14.out hc14 hb2 (by omega)).mono ?_; rintro e w15 ⟨v15, rfl, ho15, hb15⟩
          have hx15 := blk_below HX14.out hb15
          have HB15 := Lib.hid (below_step HB14.out hb15)
          obtain ⟨a15, ha15⟩ : ∃ a, a14 ++ num n2 = a := ⟨_, rfl⟩
          have hl15 : a15.length ≤ a14.length + 10 := by rw [← ha15, List.length_append]; omega
          rw [ha15] at ho15 HS
          have HO15 := Lib.hid (own_less ho15 HB14.out.size)
          clear x0 x1
          have x0 := blk_cell hx15 0
          have x1 := blk_cell hx15 1
          simp only [List.getElem?_toArray, List.getElem?_cons_succ, List.getElem?_cons_zero] at x0 x1
          clear ho15 hb15 hx15 ha15
          go_wp2
          go_roundw
          case rel => exact ⟨j + 1, ta, a15, by omega, rfl, by go_num, hq, by omega, ⟨HO15.out⟩, ⟨HS.out⟩, ⟨HQ5.out⟩, ⟨HB15.out⟩⟩
          case measure => simp [intOf]; omega
        · have hd2 := decide_eq_false (show ¬ (j : Int) < (T.length : Int) by omega)
          have HF := Lib.hid (show acc = packB C L T by have := HPj.out; rw [List.drop_of_length_le (by omega), tBytes, List.append_nil] at this; exact this)
          go_wp2
          go_ret2
          exact ⟨_, rfl, by rw [← HF.out]; exact own_less HOj.out HBel.out.size, HBel.out.trans (HBj.out.mono HBel.out.size)⟩
end Go.Proofs.Ytkecppgodmbmlaa.PK

namespace Go.Proofs.Ytkecppgodmbmlaa.PK
open Go.RowKit Go.Proofs.YtkecppgodmbmlaaW.PrintWords Go.Proofs.YtkecppgodmbmlaaW.PrintLast Go.Proofs.YtkecppgodmbmlaaW.PrintMore Go.Proofs.Ytkecppgodmbmlaa.CD Go.Proofs.Ytkecppgodmbmlaa.BR
set_option linter.unusedVariables false
set_option linter.unusedSimpArgs false
def air : List Pr := List.replicate 4096 P0
theorem air_len : air.length = 4096 := List.length_replicate
def zero : Array Value := (cells air air (.slice none 0 0)).toArray
set_option maxRecDepth 1000000 in
theorem run_zero (W : World) : (zeroValue 46).run Try.prog W = .ok (.agg zero) W := by kernel_rfl
set_option maxRecDepth 1000000 in
theorem run_build (W : World) : (Instr.build 46 #[]).run Try.prog W = .ok (.agg zero) W := by kernel_rfl
set_option maxRecDepth 1000000 in
theorem run_box (W : World) : (Instr.box 46 (.agg zero)).run Try.prog W = .ok (.pointer (some ⟨W.heap.size, 0, none⟩)) (W.alloc (.cells zero 46)) := by kernel_rfl
theorem chunk_new (W : World) : Chunk (W.alloc (.cells zero 46)) W.heap.size air air (.slice none 0 0) := ⟨blk_new W _, air_len, air_len⟩
theorem air_u8 : U8 air := fun p hp => by
  obtain ⟨_, rfl⟩ := List.mem_replicate.1 hp
  decide
theorem codes_rep (p : Pr) : ∀ n, codes (List.replicate (n + 1) p) = ([p], List.replicate (n + 1) 0)
  | 0 => rfl
  | n + 1 => by
    rw [List.replicate_succ', codes_snoc, codes_rep p n]
    unfold stepP
    simp only [lk, if_true]
    rw [List.replicate_succ' (n := n + 1)]
    rfl
theorem row_rep (n : Nat) (x : Int) : RU.row (List.replicate (n + 1) x) = num (n + 1) ++ [x] := by
  have h := RU.runs_flat [(n + 1, x)] none ⟨by omega, by simp, trivial⟩
  have e : RU.flat [(n + 1, x)] = List.replicate (n + 1) x := by simp [RU.flat]
  rw [e] at h
  unfold RU.row
  rw [h]
  simp [RU.rBytes]
theorem getD_rep (n : Nat) (p : Pr) (i : Nat) (hi : i < n) : (List.replicate n p).getD i P0 = p := by
  rw [List.getD_eq_getElem?_getD, List.getElem?_replicate, if_pos hi]; rfl
theorem may_rep (c l : Pr) (hc : mayK c = true) (hl : l.1 ≤ 15 ∧ l.2 ≤ 15) : mayB (List.replicate 4096 c) (List.replicate 4096 l) [] = true := by
  unfold mayB
  rw [Bool.and_eq_true, List.all_eq_true]
  refine ⟨fun i hi => ?_, rfl⟩
  have hi := List.mem_range.1 hi
  unfold okAt
  rw [getD_rep _ _ _ hi, getD_rep _ _ _ hi, hc, decide_eq_true hl.1, decide_eq_true hl.2]
  rfl
theorem pack_rep (c l : Pr) : packB (List.replicate 4096 c) (List.replicate 4096 l) [] = [1, c.1, c.2, 128, 32, 0, 128, 32, lcode l, 0] := by
  unfold packB
  rw [codes_rep c 4095, List.map_replicate, row_rep 4095, row_rep 4095]
  have e1 : num (4095 + 1) = [128, 32] := by decide +kernel
  have e2 : num ([] : List Pr).length = [0] := by decide +kernel
  rw [e1, e2]
  rfl
theorem string_of (l : List Int) (A : Option Addr) (c : Nat) (W : World) (h : ReadsInt W .u8 A l.length l) : (convert 26 9 (.slice A l.length c)).run Try.prog W = .ok (.string (strOfNums l)) W :=
  string_of_reads (c := c) (src := 26) Try.underlying26 Try.underlying5 Try.underlying9 h
set_option maxHeartbeats 400000 in
set_option maxRecDepth 100000 in
theorem works_calls (w : World) : Calls Try.prog 15 #[] w fun e w' => e = .returned (.bool true) ∧ Below w.heap.size w w' := by
  have hbu := run_zero
  have hbo := run_box
  have hput := Lib.hid (pput_calls w.heap.size air air [] none 0 _ (chunk_new w) ⟨rfl, by decide, fun h => absurd h (by decide)⟩ air_u8 air_u8 (by decide) (may_rep P0 P0 (by decide +kernel) (by decide)))
  have hpk : packB air air [] = [1, 0, 0, 128, 32, 0, 128, 32, 0, 0] := pack_rep P0 P0
  rw [hpk] at hput
  clear hpk
  go_enter Try.func15, Try.ntmps15
  go_wp2_with fail
  refine hput.out.mono ?_; rintro e w1 ⟨v1, rfl, ho1, hb1⟩
  have eS : ({ data := #[1, 0, 0, 128, 32, 0, 128, 32, 0, 0] } : ByteArray) = strOfNums [1, 0, 0, 128, 32, 0, 128, 32, 0, 0] := by decide +kernel
  obtain ⟨A1, c1, rfl, hc1, hr1⟩ := OB.slice ho1
  have k1 : (convert 26 9 (.slice A1 10 c1)).run Try.prog w1 = .ok (.string { data := #[1, 0, 0, 128, 32, 0, 128, 32, 0, 0] }) w1 := (string_of [1, 0, 0, 128, 32, 0, 128, 32, 0, 0] A1 c1 w1 hr1).trans (by rw [← eS])
  have HB1 := Lib.hid (below_step (below_alloc (Below.refl _ _) _) hb1)
  clear ho1 hc1 hr1 hb1 eS
  go_wp2
  go_ret
  exact ⟨rfl, HB1.out⟩
end Go.Proofs.Ytkecppgodmbmlaa.PK

namespace Go.Proofs.Ytkecppgodmbmlaa.PK
open Go.RowKit Go.Proofs.YtkecppgodmbmlaaW.PrintWords Go.Proofs.YtkecppgodmbmlaaW.PrintLast Go.Proofs.YtkecppgodmbmlaaW.PrintMore Go.Proofs.Ytkecppgodmbmlaa.CD Go.Proofs.Ytkecppgodmbmlaa.BR
set_option linter.unusedVariables false
set_option linter.unusedSimpArgs false
theorem flat_set : ∀ (l : List Pr) (i : Nat) (p : Pr), flat (l.set i p) = ((flat l).set (i * 2) (.int .u8 p.1)).set (i * 2 + 1) (.int .u8 p.2)
  | [], i, p => by simp [flat]
  | q :: l, 0, p => by simp [flat]
  | q :: l, i + 1, p => by
    have ih := flat_set l i p
    have e : ∀ (q : Pr) (l : List Pr), flat (q :: l) = .int .u8 q.1 :: .int .u8 q.2 :: flat l := fun q l => by unfold flat; rw [List.flatMap_cons]; rfl
    rw [List.set_cons_succ, e, e, ih, show (i + 1) * 2 = i * 2 + 1 + 1 by omega, show i * 2 + 1 + 1 + 1 = (i * 2 + 1) + 1 + 1 by omega]
    rfl
theorem cells_setC (C L : List Pr) (v : Value) (hC : C.length = 4096) (i : Nat) (hi : i < 4096) (p : Pr) : ((cells C L v).set (i * 2) (.int .u8 p.1)).set (i * 2 + 1) (.int .u8 p.2) = cells (C.set i p) L v := by
  have hl := flat_length C
  unfold cells
  rw [flat_set, List.set_append_left _ _ (by omega), List.set_append_left _ _ (by rw [List.length_set]; omega)]
theorem cells_setL (C L : List Pr) (v : Value) (hC : C.length = 4096) (hL : L.length = 4096) (i : Nat) (hi : i < 4096) (p : Pr) : ((cells C L v).set (8192 + i * 2) (.int .u8 p.1)).set (8192 + i * 2 + 1) (.int .u8 p.2) = cells C (L.set i p) v := by
  have hl := flat_length C
  have hl2 := flat_length L
  unfold cells
  rw [flat_set, List.set_append_right _ _ (by omega), List.set_append_right _ _ (by omega), List.set_append_left _ _ (by omega), List.set_append_left _ _ (by rw [List.length_set]; omega)]
  rw [hl, hC, show 8192 + i * 2 - 2 * 4096 = i * 2 by omega, show 8192 + i * 2 + 1 - 2 * 4096 = i * 2 + 1 by omega]
theorem cells_setT (C L : List Pr) (v u : Value) (hC : C.length = 4096) (hL : L.length = 4096) : (cells C L v).set 16384 u = cells C L u := by
  have hl := flat_length C
  have hl2 := flat_length L
  unfold cells
  rw [List.set_append_right _ _ (by omega), List.set_append_right _ _ (by omega), hl, hl2, hC, hL]
  rfl
section
variable {w w' : World} {g : Nat} {C L : List Pr} {v : Value}
theorem Chunk.setC (h : Chunk w g C L v) (i : Nat) (hi : i < 4096) (p : Pr) : Chunk ((w.setCell ⟨g, i * 2, none⟩ (.int .u8 p.1)).setCell ⟨g, i * 2 + 1, none⟩ (.int .u8 p.2)) g (C.set i p) L v := by
  refine ⟨?_, by rw [List.length_set]; exact h.lenC, h.lenL⟩
  rw [blk_set (blk_set h.blk _ _), List.setIfInBounds_toArray, List.setIfInBounds_toArray, cells_setC C L v h.lenC i hi p]
theorem Chunk.setL (h : Chunk w g C L v) (i : Nat) (hi : i < 4096) (p : Pr) : Chunk ((w.setCell ⟨g, 8192 + i * 2, none⟩ (.int .u8 p.1)).setCell ⟨g, 8192 + i * 2 + 1, none⟩ (.int .u8 p.2)) g C (L.set i p) v := by
  refine ⟨?_, h.lenC, by rw [List.length_set]; exact h.lenL⟩
  rw [blk_set (blk_set h.blk _ _), List.setIfInBounds_toArray, List.setIfInBounds_toArray, cells_setL C L v h.lenC h.lenL i hi p]
theorem Chunk.setT (h : Chunk w g C L v) (u : Value) : Chunk (w.setCell ⟨g, 16384, none⟩ u) g C L u := by
  refine ⟨?_, h.lenC, h.lenL⟩
  rw [blk_set h.blk, List.setIfInBounds_toArray, cells_setT C L v u h.lenC h.lenL]
theorem Chunk.frz (h : Chunk w g C L v) (i : Nat) : w.frozen? ⟨g, i, none⟩ = false := blk_frozen h.blk i
end
abbrev Pt := Int × Int × Pr × Pr
def Q0 : Pt := (0, 0, P0, P0)
def Pts (w : World) (A : Option Addr) (ps : List Pt) : Prop := ∀ j, j < ps.length → ∃ ad, A = some ad ∧ w.cell? (ad.add (j * 6)) = some (.int .i64 (ps.getD j Q0).1) ∧
  w.cell? ⟨(ad.add (j * 6)).block, (ad.add (j * 6)).off + 1, none⟩ = some (.int .i64 (ps.getD j Q0).2.1) ∧
  w.cell? ⟨(ad.add (j * 6)).block, (ad.add (j * 6)).off + 2, none⟩ = some (.int .u8 (ps.getD j Q0).2.2.1.1) ∧
  w.cell? ⟨(ad.add (j * 6)).block, (ad.add (j * 6)).off + 2 + 1, none⟩ = some (.int .u8 (ps.getD j Q0).2.2.1.2) ∧
  w.cell? ⟨(ad.add (j * 6)).block, (ad.add (j * 6)).off + 4, none⟩ = some (.int .u8 (ps.getD j Q0).2.2.2.1) ∧
  w.cell? ⟨(ad.add (j * 6)).block, (ad.add (j * 6)).off + 4 + 1, none⟩ = some (.int .u8 (ps.getD j Q0).2.2.2.2)
theorem Pts.grown {w w' : World} {A : Option Addr} {ps : List Pt} (h : Pts w A ps) {row : Option Nat} (hg : w.grownBy w' row) (hne : ∀ ad, A = some ad → 0 < ps.length → some ad.block ≠ row) : Pts w' A ps := fun j hj => by
  obtain ⟨ad, rfl, h0, h1, h2, h3, h4, h5⟩ := h j hj
  have hn := hne ad rfl (by omega)
  have k := fun (p : Addr) (v : Value) (e : p.block = ad.block) (hc : w.cell? p = some v) => hg.cell hc (by rw [e]; exact hn)
  exact ⟨ad, rfl, k _ _ (add_block _ _) h0, k _ _ (add_block _ _) h1, k _ _ (add_block _ _) h2, k _ _ (add_block _ _) h3, k _ _ (add_block _ _) h4, k _ _ (add_block _ _) h5⟩
def fillN (at_ : Nat) (x : Pr) : Nat → List Pr → List Pr
  | 0, l => l
  | m + 1, l => (fillN at_ x m l).set (at_ + m) x
def many (p : Pt) : Nat := min p.2.1.toNat (4096 - (p.1 % 4096).toNat)
end Go.Proofs.Ytkecppgodmbmlaa.PK

namespace Go.Proofs.Ytkecppgodmbmlaa.PK
set_option linter.unusedVariables false
theorem getD_set (l : List Pr) (i j : Nat) (p : Pr) (hi : i < l.length) : (l.set i p).getD j P0 = if i = j then p else l.getD j P0 := by
  rw [List.getD_eq_getElem?_getD, List.getElem?_set, List.getD_eq_getElem?_getD]
  by_cases h : i = j
  · subst h; simp [hi]
  · simp [h]
theorem may_set (C L T T' : List Pr) (hC : C.length = 4096) (hL : L.length = 4096) (h : mayB C L T' = true) (a : Nat) (ha : a < 4096) (c l : Pr) :
    mayB (C.set a c) (L.set a l) T = ((mayK c && (decide (l.1 ≤ 15) && decide (l.2 ≤ 15))) && tOk (-1) T) := by
  unfold mayB at h ⊢
  rw [Bool.and_eq_true, List.all_eq_true] at h
  suffices hA : (List.range 4096).all (okAt (C.set a c) (L.set a l)) = (mayK c && (decide (l.1 ≤ 15) && decide (l.2 ≤ 15))) by rw [hA]
  have e : ∀ i, okAt (C.set a c) (L.set a l) i = if a = i then mayK c && (decide (l.1 ≤ 15) && decide (l.2 ≤ 15)) else okAt C L i := by
    intro i
    unfold okAt
    rw [getD_set _ _ _ _ (by omega), getD_set _ _ _ _ (by omega)]
    split <;> rfl
  cases hb : (mayK c && (decide (l.1 ≤ 15) && decide (l.2 ≤ 15))) with
  | true =>
    rw [List.all_eq_true]
    intro i hi
    rw [e, hb]
    split
    · rfl
    · exact h.1 i hi
  | false =>
    rw [← Bool.not_eq_true, List.all_eq_true]
    intro hh
    have := hh a (List.mem_range.2 ha)
    rw [e, if_pos rfl, hb] at this
    cases this
theorem u8_set {l : List Pr} (h : U8 l) (i : Nat) (p : Pr) (hp : (0 ≤ p.1 ∧ p.1 < 256) ∧ 0 ≤ p.2 ∧ p.2 < 256) : U8 (l.set i p) := fun q hq => by
  rcases List.mem_or_eq_of_mem_set hq with h1 | rfl
  · exact h q h1
  · exact hp
end Go.Proofs.Ytkecppgodmbmlaa.PK

namespace Go.Proofs.Ytkecppgodmbmlaa.PK
open Go.Proofs.Ytkecppgodmbmlaa.CD Go.Proofs.Ytkecppgodmbmlaa.BR
set_option linter.unusedVariables false
structure Pk (b : List Int) (C L T : List Pr) : Prop where
  lenC : C.length = 4096
  lenL : L.length = 4096
  u8C : U8 C
  u8L : U8 L
  may : mayB C L T = true
  eq : packB C L T = b
theorem may_at {C L T : List Pr} (h : mayB C L T = true) (i : Nat) (hi : i < 4096) : okAt C L i = true := by
  unfold mayB at h
  rw [Bool.and_eq_true, List.all_eq_true] at h
  exact h.1 i (List.mem_range.2 hi)
theorem may_tick {C L T : List Pr} (h : mayB C L T = true) : tOk (-1) T = true := by
  unfold mayB at h
  rw [Bool.and_eq_true] at h
  exact h.2
theorem mem_getD {l : List Pr} {p : Pr} (h : p ∈ l) : ∃ i, i < l.length ∧ l.getD i P0 = p := by
  obtain ⟨i, hi, rfl⟩ := List.getElem_of_mem h
  exact ⟨i, hi, by rw [List.getD_eq_getElem?_getD, List.getElem?_eq_getElem hi]; rfl⟩
section
variable {b : List Int} {C L T : List Pr}
theorem Pk.mayC (h : Pk b C L T) : ∀ p ∈ C, mayK p = true := fun p hp => by
  obtain ⟨i, hi, rfl⟩ := mem_getD hp
  have := may_at h.may i (by rw [← h.lenC]; exact hi)
  unfold okAt at this
  rw [Bool.and_eq_true] at this
  exact this.1
theorem Pk.mayL (h : Pk b C L T) : ∀ p ∈ L, (0 ≤ p.1 ∧ p.1 ≤ 15) ∧ 0 ≤ p.2 ∧ p.2 ≤ 15 := fun p hp => by
  have hu := h.u8L p hp
  obtain ⟨i, hi, rfl⟩ := mem_getD hp
  have := may_at h.may i (by rw [← h.lenL]; exact hi)
  unfold okAt at this
  rw [Bool.and_eq_true, Bool.and_eq_true] at this
  have h1 := of_decide_eq_true this.2.1
  have h2 := of_decide_eq_true this.2.2
  exact ⟨⟨hu.1.1, h1⟩, hu.2.1, h2⟩
theorem Pk.pal (h : Pk b C L T) : (codes C).1.length ≤ 240 := pal_small C h.mayC h.u8C
end
def mean (P : List Pr) (k : Int) : Pr := P.getD k.toNat P0
theorem mean_app (P Q : List Pr) (k : Int) (h0 : 0 ≤ k) (h : k < (P.length : Int)) : mean (P ++ Q) k = mean P k := by
  unfold mean
  rw [List.getD_eq_getElem?_getD, List.getD_eq_getElem?_getD, List.getElem?_append_left (by omega)]
theorem codes_mean (l : List Pr) : (codes l).2.map (mean (codes l).1) = l ∧ ∀ k ∈ (codes l).2, 0 ≤ k ∧ k < ((codes l).1.length : Int) := by
  have h : ∀ (l : List Pr) (s : List Pr × List Int) (d : List Pr), s.2.map (mean s.1) = d → (∀ k ∈ s.2, 0 ≤ k ∧ k < (s.1.length : Int)) → (l.foldl stepP s).2.map (mean (l.foldl stepP s).1) = d ++ l ∧ ∀ k ∈ (l.foldl stepP s).2, 0 ≤ k ∧ k < ((l.foldl stepP s).1.length : Int) := by
    intro l
    induction l with
    | nil => intro s d h1 h2; exact ⟨by rw [List.append_nil]; exact h1, h2⟩
    | cons p l ih =>
      intro s d h1 h2
      have hs : (stepP s p).2.map (mean (stepP s p).1) = d ++ [p] ∧ ∀ k ∈ (stepP s p).2, 0 ≤ k ∧ k < ((stepP s p).1.length : Int) := by
        unfold stepP
        cases hk : lk 0 s.1 p with
        | some j =>
          obtain ⟨_, hj, hp⟩ := lk_lt s.1 0 p j hk
          have hm : mean s.1 (j : Int) = p := by
            unfold mean
            rw [List.getD_eq_getElem?_getD, Int.toNat_natCast, show j = j - 0 by omega, hp]; rfl
          refine ⟨?_, fun k hk2 => ?_⟩
          · simp only [List.map_append, List.map_cons, List.map_nil, h1, hm]
          · rcases List.mem_append.1 hk2 with h | h
            · exact h2 k h
            · obtain rfl := List.mem_singleton.1 h
              show (0 : Int) ≤ (j : Int) ∧ (j : Int) < ((s.1.length : Nat) : Int)
              omega
        | none =>
          refine ⟨?_, fun k hk2 => ?_⟩
          · simp only [List.map_append, List.map_cons, List.map_nil]
            have e1 : s.2.map (mean (s.1 ++ [p])) = d := by
              rw [← h1]
              exact List.map_congr_left fun k hk => mean_app _ _ k (h2 k hk).1 (h2 k hk).2
            have e2 : mean (s.1 ++ [p]) (s.1.length : Int) = p := by
              unfold mean
              rw [Int.toNat_natCast, List.getD_eq_getElem?_getD, List.getElem?_append_right (Nat.le_refl _), Nat.sub_self]; rfl
            rw [e1, e2]
          · rw [List.length_append, List.length_singleton]
            rcases List.mem_append.1 hk2 with h | h
            · have := h2 k h; omega
            · obtain rfl := List.mem_singleton.1 h
              omega
      rw [List.foldl_cons, show d ++ p :: l = (d ++ [p]) ++ l by simp]
      exact ih _ _ hs.1 hs.2
  have := h l ([], []) [] rfl (fun k hk => by cases hk)
  rwa [List.nil_append] at this
theorem codes_ne (l : List Pr) (h : 0 < l.length) : 1 ≤ (codes l).1.length := by
  have hm := codes_mean l
  have hl := codes_len l
  obtain ⟨k, hk⟩ : ∃ k, k ∈ (codes l).2 := by
    cases hc : (codes l).2 with
    | nil => rw [hc] at hl; simp at hl; omega
    | cons k r => exact ⟨k, by simp⟩
  have := hm.2 k hk
  omega
theorem packB_parts (C L T : List Pr) : packB C L T = ((codes C).1.length : Int) :: (pBytes (codes C).1 ++ (RU.row (codes C).2 ++ (RU.row (L.map lcode) ++ (num T.length ++ tBytes (-1) T)))) := by
  unfold packB
  simp only [List.append_assoc, List.cons_append, List.nil_append]
def lightOf (x : Int) : Pr := (x / 16, x % 16)
theorem lightOf_lcode {p : Pr} (h : (0 ≤ p.1 ∧ p.1 ≤ 15) ∧ 0 ≤ p.2 ∧ p.2 ≤ 15) : lightOf (lcode p) = p := by
  obtain ⟨a, c⟩ := p
  unfold lightOf lcode
  simp only at h ⊢
  have e1 : (a * 16 + c) / 16 = a := by omega
  have e2 : (a * 16 + c) % 16 = c := by omega
  rw [e1, e2]
theorem Pk.light {b : List Int} {C L T : List Pr} (h : Pk b C L T) : (L.map lcode).map lightOf = L := by
  rw [List.map_map]
  conv => rhs; rw [← List.map_id L]
  exact List.map_congr_left fun p hp => lightOf_lcode (h.mayL p hp)
theorem tOk_cons {was : Int} {t : Pr} {r : List Pr} (h : tOk was (t :: r) = true) : (was < t.1 ∧ t.1 < 4096) ∧ (1 ≤ t.2 ∧ t.2 ≤ 2199023255552) ∧ tOk t.1 r = true := by
  rw [tOk, Bool.and_eq_true, Bool.and_eq_true, Bool.and_eq_true, Bool.and_eq_true] at h
  exact ⟨⟨of_decide_eq_true h.1, of_decide_eq_true h.2.1⟩, ⟨of_decide_eq_true h.2.2.1, of_decide_eq_true h.2.2.2.1⟩, h.2.2.2.2⟩
theorem tOk_len : ∀ (T : List Pr) (was : Int), -1 ≤ was → was < 4096 → tOk was T = true → (T.length : Int) ≤ 4095 - was
  | [], was, h1, h2, _ => by simp; omega
  | t :: r, was, h1, h2, h => by
    obtain ⟨⟨a, b⟩, _, hr⟩ := tOk_cons h
    have := tOk_len r t.1 (by omega) b hr
    rw [List.length_cons]
    omega
theorem Pk.few {b : List Int} {C L T : List Pr} (h : Pk b C L T) : T.length ≤ 4096 := by
  have := tOk_len T (-1) (by omega) (by omega) (may_tick h.may)
  omega
theorem num_next (n : Nat) (rest : List Int) (hn : n < 18446744073709551616) : rNum (num n ++ rest, false) = (n, (rest, false)) := by
  have hd := dec_num n rest hn
  have hp := num_pos n
  unfold rNum
  rw [hd]
  simp only [Bool.false_eq_true, if_false]
  rw [if_neg (by omega), List.drop_left']
  rfl
theorem num_same {m n : Nat} {x y : List Int} (hm : m < 18446744073709551616) (hn : n < 18446744073709551616) (h : num m ++ x = num n ++ y) : m = n ∧ x = y := by
  have h1 := num_next m x hm
  rw [h, num_next n y hn] at h1
  simp only [Prod.mk.injEq] at h1
  exact ⟨h1.1.symm, h1.2.1.symm⟩
theorem tBytes_same : ∀ (T1 T2 : List Pr) (was : Int) (x y : List Int), -1 ≤ was → was < 4096 → tOk was T1 = true → tOk was T2 = true → T1.length = T2.length → tBytes was T1 ++ x = tBytes was T2 ++ y → T1 = T2 ∧ x = y
  | [], [], was, x, y, _, _, _, _, _, h => ⟨rfl, h⟩
  | [], t :: r, _, _, _, _, _, _, _, hl, _ => by simp at hl
  | t :: r, [], _, _, _, _, _, _, _, hl, _ => by simp at hl
  | t :: r, s :: q, was, x, y, h1, h2, ht, hs, hl, h => by
    obtain ⟨⟨a, b⟩, ⟨c, d⟩, hr⟩ := tOk_cons ht
    obtain ⟨⟨a', b'⟩, ⟨c', d'⟩, hq⟩ := tOk_cons hs
    simp only [tBytes, List.append_assoc] at h
    obtain ⟨e1, h'⟩ := num_same (by omega) (by omega) h
    obtain ⟨e2, h''⟩ := num_same (by omega) (by omega) h'
    clear h h'
    have hl2 : r.length = q.length := by simpa using hl
    obtain ⟨t1, t2⟩ := t; obtain ⟨s1, s2⟩ := s
    simp only at *
    obtain rfl : t1 = s1 := by omega
    obtain rfl : t2 = s2 := by omega
    obtain ⟨rfl, rfl⟩ := tBytes_same r q t1 x y (by omega) b hr hq hl2 h''
    exact ⟨rfl, rfl⟩
theorem row_same {l m x y : List Int} (hl : l.length = 4096) (hm : m.length = 4096) (h : RU.row l ++ x = RU.row m ++ y) : l = m ∧ x = y := by
  have h1 := RU.getG_row l x (by omega)
  have h2 := RU.getG_row m y (by omega)
  rw [hl, h] at h1
  rw [hm, h1] at h2
  injection h2 with h2
  injection h2 with h2 h3
  exact ⟨h2, h3⟩
theorem pBytes_inj : ∀ (P Q : List Pr), pBytes P = pBytes Q → P = Q
  | [], [], _ => rfl
  | [], q :: Q, h => by simp [pBytes] at h
  | p :: P, [], h => by simp [pBytes] at h
  | p :: P, q :: Q, h => by
    have e : ∀ (p : Pr) P, pBytes (p :: P) = p.1 :: p.2 :: pBytes P := fun p P => by unfold pBytes; rw [List.flatMap_cons]; rfl
    rw [e, e] at h
    injection h with h1 h
    injection h with h2 h
    rw [pBytes_inj P Q h, show p = q from Prod.ext h1 h2]
theorem pk_prefix {b1 b2 x : List Int} {C1 L1 T1 C2 L2 T2 : List Pr} (h1 : Pk b1 C1 L1 T1) (h2 : Pk b2 C2 L2 T2) (h : b1 ++ x = b2) : C1 = C2 ∧ L1 = L2 ∧ T1 = T2 ∧ x = [] := by
  rw [← h1.eq, ← h2.eq, packB_parts, packB_parts] at h
  simp only [List.cons_append, List.append_assoc, List.cons.injEq] at h
  obtain ⟨hk, h⟩ := h
  have hk : (codes C1).1.length = (codes C2).1.length := by omega
  have hpl : (pBytes (codes C1).1).length = (pBytes (codes C2).1).length := by rw [pBytes_len, pBytes_len, hk]
  obtain ⟨hp, h⟩ := List.append_inj h hpl
  have hP := pBytes_inj _ _ hp
  obtain ⟨hc, h⟩ := row_same (by rw [codes_len, h1.lenC]) (by rw [codes_len, h2.lenC]) h
  have hC : C1 = C2 := by rw [← (codes_mean C1).1, ← (codes_mean C2).1, hP, hc]
  obtain ⟨hl, h⟩ := row_same (by rw [List.length_map, h1.lenL]) (by rw [List.length_map, h2.lenL]) h
  have hL : L1 = L2 := by rw [← h1.light, ← h2.light, hl]
  have f1 := h1.few
  have f2 := h2.few
  obtain ⟨hn, h⟩ := num_same (by omega) (by omega) h
  rw [show tBytes (-1) T2 = tBytes (-1) T2 ++ [] by rw [List.append_nil]] at h
  obtain ⟨hT, hx⟩ := tBytes_same T1 T2 (-1) x [] (by omega) (by omega) (may_tick h1.may) (may_tick h2.may) hn h
  exact ⟨hC, hL, hT, hx⟩
theorem pk_one {b : List Int} {C1 L1 T1 C2 L2 T2 : List Pr} (h1 : Pk b C1 L1 T1) (h2 : Pk b C2 L2 T2) : C1 = C2 ∧ L1 = L2 ∧ T1 = T2 := by
  obtain ⟨a, c, d, _⟩ := pk_prefix h1 h2 (List.append_nil b)
  exact ⟨a, c, d⟩
section
variable {b : List Int} {C L T : List Pr}
def tailT (T : List Pr) : List Int := num T.length ++ tBytes (-1) T
def tailL (L T : List Pr) : List Int := RU.row (L.map lcode) ++ tailT T
def tailC (C L T : List Pr) : List Int := RU.row (codes C).2 ++ tailL L T
theorem Pk.head (h : Pk b C L T) : ∃ k : Nat, b = (k : Int) :: (pBytes (codes C).1 ++ tailC C L T) ∧ k = (codes C).1.length ∧ 1 ≤ k ∧ k ≤ 240 :=
  ⟨_, by rw [← h.eq, packB_parts]; rfl, rfl, codes_ne C (by rw [h.lenC]; decide), h.pal⟩
theorem Pk.drop (h : Pk b C L T) (k : Nat) (hk : b.getD 0 0 = (k : Int)) : 1 ≤ k ∧ k ≤ 240 ∧ 1 + 2 * k ≤ b.length ∧ k = (codes C).1.length ∧ b.drop (1 + 2 * k) = tailC C L T := by
  obtain ⟨j, rfl, hj, h1, h2⟩ := h.head
  obtain rfl : j = k := by
    have : (j : Int) = (k : Int) := by simpa using hk
    omega
  have hl := pBytes_len (codes C).1
  refine ⟨h1, h2, ?_, hj, ?_⟩
  · rw [List.length_cons, List.length_append, hl]; omega
  · rw [Nat.add_comm, List.drop_succ_cons, List.drop_append_of_le_length (by omega), List.drop_of_length_le (by omega)]; rfl
theorem Pk.get1 (h : Pk b C L T) : RU.getG 4097 4096 (tailC C L T) [] = some ((codes C).2, tailL L T) := by
  have := RU.getG_row (codes C).2 (tailL L T) (by rw [codes_len, h.lenC]; decide)
  rw [codes_len, h.lenC] at this
  exact this
theorem Pk.get2 (h : Pk b C L T) : RU.getG 4097 4096 (tailL L T) [] = some (L.map lcode, tailT T) := by
  have := RU.getG_row (L.map lcode) (tailT T) (by rw [List.length_map, h.lenL]; decide)
  rw [List.length_map, h.lenL] at this
  exact this
def palAt (b : List Int) (k : Int) : Pr := (b.getD (1 + 2 * k.toNat) 0, b.getD (2 + 2 * k.toNat) 0)
theorem pBytes_at : ∀ (P : List Pr) (i : Nat), i < P.length → ∀ r, ((pBytes P) ++ r).getD (2 * i) 0 = (P.getD i P0).1 ∧ ((pBytes P) ++ r).getD (2 * i + 1) 0 = (P.getD i P0).2
  | p :: P, 0, _, r => ⟨rfl, rfl⟩
  | p :: P, i + 1, h, r => by
    have e : pBytes (p :: P) ++ r = p.1 :: p.2 :: (pBytes P ++ r) := by unfold pBytes; rw [List.flatMap_cons]; rfl
    have ih := pBytes_at P i (by simpa using h) r
    rw [e, show 2 * (i + 1) = 2 * i + 1 + 1 by omega, List.getD_cons_succ, List.getD_cons_succ, List.getD_cons_succ, List.getD_cons_succ, List.getD_cons_succ]
    exact ih
theorem Pk.cells (h : Pk b C L T) : (codes C).2.map (palAt b) = C := by
  conv => rhs; rw [← (codes_mean C).1]
  refine List.map_congr_left fun k hk => ?_
  obtain ⟨h0, h1⟩ := (codes_mean C).2 k hk
  obtain ⟨j, rfl, _⟩ := h.head
  have hp := pBytes_at (codes C).1 k.toNat (by omega) (tailC C L T)
  unfold palAt mean
  rw [show 1 + 2 * k.toNat = 2 * k.toNat + 1 by omega, show 2 + 2 * k.toNat = 2 * k.toNat + 1 + 1 by omega, List.getD_cons_succ, List.getD_cons_succ, hp.1, hp.2]
theorem Pk.below (h : Pk b C L T) : ∀ k ∈ (codes C).2, k < ((codes C).1.length : Int) := fun k hk => ((codes_mean C).2 k hk).2
end
def TS (b : List Int) (T : List Pr) (X : List Int) (br : Bool) (many : Nat) (was : Int) : Prop :=
  ∀ C0 L0 T0, Pk b C0 L0 T0 → br = false ∧ ∃ T1, T0 = T ++ T1 ∧ X = tBytes was T1 ∧ many = T1.length ∧ tOk was T1 = true ∧ -1 ≤ was ∧ was < 4096
theorem TS.start {b X : List Int} (h : ∀ C0 L0 T0, Pk b C0 L0 T0 → X = tailT T0) : TS b [] (rNum (X, false)).2.1 (rNum (X, false)).2.2 (rNum (X, false)).1 (-1) := fun C0 L0 T0 hp => by
  have hf := hp.few
  rw [h C0 L0 T0 hp]
  unfold tailT
  rw [num_next _ _ (by omega)]
  exact ⟨rfl, T0, rfl, rfl, rfl, may_tick hp.may, by omega, by omega⟩
theorem TS.step {b : List Int} {T : List Pr} {X : List Int} {br : Bool} {many : Nat} {was : Int} (h : TS b T X br many was) (h1 : 1 ≤ many) :
    TS b (T ++ [(was + (1 + ((min (rNum (X, br)).1 4096 : Nat) : Int)), ((min (rNum (rNum (X, br)).2).1 2199023255553 : Nat) : Int))]) (rNum (rNum (X, br)).2).2.1 (rNum (rNum (X, br)).2).2.2 (many - 1) (was + (1 + ((min (rNum (X, br)).1 4096 : Nat) : Int))) := fun C0 L0 T0 hp => by
  obtain ⟨rfl, T1, hT, rfl, hm, hok, hw1, hw2⟩ := h C0 L0 T0 hp
  cases T1 with
  | nil => simp at hm; omega
  | cons t r =>
    obtain ⟨⟨a, c⟩, ⟨d, e⟩, hr⟩ := tOk_cons hok
    simp only [tBytes]
    rw [num_next _ _ (by omega)]
    simp only
    rw [num_next _ _ (by omega)]
    simp only
    have e1 : was + (1 + ((min (t.1 - was - 1).toNat 4096 : Nat) : Int)) = t.1 := by omega
    have e2 : ((min t.2.toNat 2199023255553 : Nat) : Int) = t.2 := by omega
    rw [e1, e2]
    exact ⟨trivial, r, by rw [hT, List.append_assoc]; rfl, rfl, by rw [hm, List.length_cons]; omega, hr, by omega, c⟩
theorem TS.stop {b : List Int} {T : List Pr} {X : List Int} {br : Bool} {many : Nat} {was : Int} (h : TS b T X br many was) (he : many = 0 ∨ br = true ∨ 4096 < T.length) : ∀ C0 L0 T0, Pk b C0 L0 T0 → T0 = T := fun C0 L0 T0 hp => by
  obtain ⟨hb, T1, hT, _, hm, _⟩ := h C0 L0 T0 hp
  have hf := hp.few
  rw [hT, List.length_append] at hf
  have h0 : T1 = [] := List.length_eq_zero_iff.1 (by
    rcases he with h | h | h
    · omega
    · rw [hb] at h; cases h
    · omega)
  rw [hT, h0, List.append_nil]
theorem num_le2 (n : Nat) (h : n < 16384) : (num n).length ≤ 2 := by
  unfold num
  rw [numF]
  split
  · simp
  · rw [numF, if_pos (by omega)]
    simp
theorem num_le6 (n : Nat) (h : n < 4398046511104) : (num n).length ≤ 6 := by
  unfold num
  rw [numF]
  split
  · simp
  · rw [numF]
    split
    · simp
    · rw [numF]
      split
      · simp
      · rw [numF]
        split
        · simp
        · rw [numF]
          split
          · simp
          · rw [numF, if_pos (by omega)]
            simp
theorem rBytes_le : ∀ (r : List (Nat × Int)) (was : Option Int), RU.Good was r → (RU.flat r).length < 16384 → (RU.rBytes r).length ≤ 2 * (RU.flat r).length
  | [], _, _, _ => by simp [RU.rBytes]
  | (m, x) :: r, was, h, hl => by
    obtain ⟨h1, _, h3⟩ := h
    have e1 : RU.rBytes ((m, x) :: r) = num m ++ (x :: RU.rBytes r) := by
      have := RU.rBytes_cons m x r []
      simpa using this
    have e2 : RU.flat ((m, x) :: r) = List.replicate m x ++ RU.flat r := by simp [RU.flat]
    rw [e2, List.length_append, List.length_replicate] at hl
    have ih := rBytes_le r (some x) h3 (by omega)
    rw [e1, e2, List.length_append, List.length_append, List.length_cons, List.length_replicate]
    by_cases hm : m < 128
    · have : (num m).length = 1 := by unfold num; rw [numF_small 9 m hm]; rfl
      omega
    · have := num_le2 m (by omega)
      omega
theorem row_le (l : List Int) (h : l.length < 16384) : (RU.row l).length ≤ 2 * l.length := by
  have := rBytes_le (RU.runs l) none (RU.good_runs l) (by rw [RU.flat_runs]; exact h)
  rw [RU.flat_runs] at this
  exact this
theorem tBytes_le : ∀ (T : List Pr) (was : Int), -1 ≤ was → tOk was T = true → (tBytes was T).length ≤ 8 * T.length
  | [], _, _, _ => by simp [tBytes]
  | t :: r, was, hw, h => by
    obtain ⟨⟨a, b⟩, ⟨c, d⟩, hr⟩ := tOk_cons h
    have ih := tBytes_le r t.1 (by omega) hr
    have h1 := num_le2 (t.1 - was - 1).toNat (by omega)
    have h2 := num_le6 t.2.toNat (by omega)
    simp only [tBytes, List.length_append, List.length_cons]
    omega
theorem Pk.len {b : List Int} {C L T : List Pr} (h : Pk b C L T) : b.length ≤ 65536 := by
  have h1 := h.pal
  have h2 := pBytes_len (codes C).1
  have h3 := row_le (codes C).2 (by rw [codes_len, h.lenC]; decide)
  have h4 := row_le (L.map lcode) (by rw [List.length_map, h.lenL]; decide)
  have h5 := tBytes_le T (-1) (by omega) (may_tick h.may)
  have h6 := num_le T.length
  have h7 := h.few
  rw [codes_len, h.lenC] at h3
  rw [List.length_map, h.lenL] at h4
  rw [← h.eq, packB_parts]
  simp only [List.length_cons, List.length_append]
  omega
end Go.Proofs.Ytkecppgodmbmlaa.PK

namespace Go.Proofs.Ytkecppgodmbmlaa.RU
open Go.RowKit Go.Proofs.YtkecppgodmbmlaaW.PrintWords Go.Proofs.YtkecppgodmbmlaaW.PrintLast Go.Proofs.YtkecppgodmbmlaaW.PrintMore Go.Proofs.Ytkecppgodmbmlaa.CD Go.Proofs.Ytkecppgodmbmlaa.BR
attribute [local go_sem] max2_int min2_int max_two min_two max_three min_three max_four min_four
set_option linter.unusedVariables false
set_option linter.unusedSimpArgs false
theorem mask32 (n : Nat) (hn : n < 4294967296) : bits .and .u64 (n : Int) 4294967295 = (n : Int) := by
  have := bits_mask .u64 64 (by decide) (fun n a b => by simp [IntKind.wrap, IntKind.bits, IntKind.signed]; omega) 32 (by decide) (n : Int) (by omega) (by omega)
  rw [show (2 : Int) ^ 32 - 1 = 4294967295 by decide, show (2 : Int) ^ 32 = 4294967296 by decide] at this
  rw [this]; omega
theorem mul_f (k : Nat) (hk : k ≤ 65536) : PPackBack.bits_Mul.f 1 (k : Int) = some (0, (k : Int)) := by
  unfold PPackBack.bits_Mul.f PPackBack.bits_Mul64.f
  have e1 := mask32 k (by omega)
  have e2 : bits .and .u64 (1 : Int) 4294967295 = 1 := mask32 1 (by decide)
  rw [e1, e2]
  have d1 : (1 : Int) / 4294967296 = 0 := by decide
  have d2 : (k : Int) / 4294967296 = 0 := by omega
  rw [d1, d2]
  simp only [Int.zero_mul, Int.mul_zero, Int.one_mul, Option.bind_some]
  have w0 : IntKind.u64.wrap 0 = 0 := by decide
  have wk : IntKind.u64.wrap (k : Int) = (k : Int) := CF.wu64_id _ (by omega) (by omega)
  rw [w0, wk, d2]
  simp only [Int.add_zero, w0]
  have m0 : bits .and .u64 (0 : Int) 4294967295 = 0 := mask32 0 (by decide)
  rw [m0]
  simp [w0]
theorem mul_calls (k : Nat) (w : World) (hk : k ≤ 65536) : Calls Try.prog 48 #[.int .u64 1, .int .u64 (k : Int)] w fun e w' => e = .returned (.tuple #[.int .u64 0, .int .u64 (k : Int)]) ∧ Drawn0 w w' :=
  PPackBack.bits_Mul.calls 1 (k : Int) 0 (k : Int) w (mul_f k hk)
theorem add_p2 (b o i : Nat) : (⟨b, o, none⟩ : Addr).add i = ⟨b, o + i, none⟩ := by unfold Addr.add; split <;> simp_all
theorem copy_self (w0 wr : World) (h N bp c : Nat) (x : UInt8) (t ty e : TypeId) (hu : Try.prog.underlying t = some (.slice e)) (hs : (Try.prog.info? e).map (·.size) = some 1)
    (hb : Lib.Buf w0 wr h N (List.replicate bp x)) (h0 : 0 < c) (hcb : c ≤ bp) (hbn : bp < N) :
    ∃ wr' m, 1 ≤ m ∧ bp + m ≤ N ∧ (Builtin.copy_ #[t, t] ty #[Lib.tailV h N bp, .slice (some ⟨h, 0, none⟩) c N]).run Try.prog wr = .ok (.int .i64 (m : Int)) wr' ∧ Lib.Buf w0 wr' h N (List.replicate (bp + m) x) := by
  have hfr := hb.fits
  rw [List.length_replicate] at hfr
  obtain ⟨m, hm⟩ : ∃ m, m = min (N - bp) c := ⟨_, rfl⟩
  have hr := run_copy_cells (P := Try.prog) wr t t ty e h bp (N - bp) (N - bp) ⟨h, 0, none⟩ c N (List.replicate m (Value.int .u8 (x.toNat : Int))) hu hs (by rw [List.length_replicate]; show m = min c (N - bp); omega)
    (fun j u hj => by
      rw [List.getElem?_replicate] at hj
      split at hj
      · obtain rfl := Option.some.inj hj
        have := hb.holds j x (by rw [List.getElem?_replicate, if_pos (by omega)])
        rw [add_p2, Nat.zero_add]; exact this
      · exact absurd hj (by simp))
    (fun j hj => by rw [List.length_replicate] at hj; exact hb.there _ (by omega)) (fun j hj => by rw [List.length_replicate] at hj; exact hb.free _ (by omega))
    (fun u hu' => by rw [List.eq_of_mem_replicate hu']; rfl)
  rw [List.length_replicate] at hr
  refine ⟨_, m, by omega, by omega, by unfold Lib.tailV; rw [if_neg (by omega)]; exact hr, ?_⟩
  have hin := World.cell?_setCells_in h (List.replicate m (Value.int .u8 (x.toNat : Int))) bp wr (fun j hj => by rw [List.length_replicate] at hj; exact hb.there _ (by omega))
  have hout := World.cell?_setCells_out h (List.replicate m (Value.int .u8 (x.toNat : Int))) bp wr
  refine ⟨Lib.below_setCells h (Nat.le_refl _) _ _ hb.below, ?_, ?_, ?_, by rw [List.length_replicate]; omega⟩
  · intro j hj
    by_cases h1 : bp ≤ j ∧ j < bp + m
    · obtain ⟨d, rfl⟩ : ∃ d, j = bp + d := ⟨j - bp, by omega⟩
      rw [hin d (by rw [List.length_replicate]; omega)]
      rfl
    · rw [hout ⟨h, j, none⟩ (fun _ _ => by rw [List.length_replicate]; show j < _ ∨ _ ≤ j; omega)]
      exact hb.there j hj
  · intro j hj
    rw [World.frozen?_setCells]
    exact hb.free j hj
  · intro j y hy
    rw [List.getElem?_replicate] at hy
    split at hy
    case isFalse => exact absurd hy (by simp)
    case isTrue hj =>
      obtain rfl := Option.some.inj hy
      by_cases h1 : j < bp
      · rw [hout ⟨h, j, none⟩ (fun _ _ => Or.inl h1)]
        exact hb.holds j x (by rw [List.getElem?_replicate, if_pos h1])
      · obtain ⟨d, rfl⟩ : ∃ d, j = bp + d := ⟨j - bp, by omega⟩
        rw [hin d (by rw [List.length_replicate]; omega)]
        simp [List.getElem_replicate]
theorem step_run {ops : Array Oper} {o : Oper} {a : Act} {w : World} {K : Act → World → Prop} {Q : Exit → Act → World → Prop} {E : Prop} (hgd : o.guard = none) (d s : Operand) (t t' : TypeId)
    (ho : o.op = .call { callee := .builtin .copy, args := #[d, s], argTypes := #[t, t'] }) (v u : Value) (hd : a.eval d = v) (hs : a.eval s = u) {v' : Value} {w' : World}
    (hr : (Builtin.copy_ #[t, t'] o.type #[v, u]).run Try.prog w = .ok v' w') (h : K (a.put o.dst v') w') :
    if Region.wanted o (yielded ops a.tmps) = true then Oper.wp Try.prog o a w K Q else E := by
  rw [if_pos (by simp [Region.wanted, hgd])]
  exact Lib.wp_copy_run w d s t t' ho v u hd hs hr h
theorem buf_drew {w0 wr : World} {h N : Nat} {acc : List UInt8} (hb : Lib.Buf w0 wr h N acc) (n : Nat) : Lib.Buf w0 (wr.drewN n) h N acc :=
  ⟨pw_below_drewN hb.below n, fun j hj => by rw [World.cell?_drewN]; exact hb.there j hj, fun j hj => by rw [World.frozen?_drewN]; exact hb.free j hj, fun j x hx => by rw [World.cell?_drewN]; exact hb.holds j x hx, hb.fits⟩
set_option maxHeartbeats 1000000 in
set_option maxRecDepth 100000 in
theorem repeat_calls (A : Option Addr) (c : Nat) (x : UInt8) (k : Nat) (w : World) (hr : ReadsInt w .u8 A 1 [(x.toNat : Int)]) (hc : 1 ≤ c) (hk1 : 1 ≤ k) (hk : k ≤ 65536) :
    Calls Try.prog 40 #[.slice A 1 c, .int .i64 (k : Int)] w fun e w' => ∃ A' c', e = .returned (.slice A' k c') ∧ k ≤ c' ∧ ReadsInt w' .u8 A' k (List.replicate k (x.toNat : Int)) ∧ Below w.heap.size w w' := by
  have hM := fun (W : World) => Lib.run_makeNoZero (P := Try.prog) W #[3] 26 5 Try.underlying26 k (by omega)
  have kz : ((k : Int) == 0) = false := beq_eq_false_iff_ne.mpr (by omega)
  have kn : decide ((k : Int) < 0) = false := decide_eq_false (by omega)
  have kw : IntKind.u64.wrap (k : Int) = (k : Int) := CF.wu64_id _ (by omega) (by omega)
  obtain ⟨b8, hb8⟩ : ∃ b : Bool, decide (8192 < (k : Int)) = b := ⟨_, rfl⟩
  obtain ⟨ad, rfl, hcell⟩ := hr.2.2 (by omega)
  have HR := Lib.hid hr
  have hcells : ∀ (a : Addr), some ad = some a → ∀ (i : Nat) y, [x][i]? = some y → w.cell? (a.add i) = some (.int .u8 (y.toNat : Int)) := fun a h i y hy => by
    obtain rfl := Option.some.inj h
    match i, hy with
    | 0, hy => simp at hy; subst hy; exact hcell 0 (by omega)
  clear hcell
  clear hr
  cases b8
  all_goals
    go_enter Try.func40, Try.ntmps40
    go_wp2_with fail
    refine (mul_calls k _ hk).mono ?_; rintro e w1 ⟨rfl, ⟨n1, rfl⟩⟩
    obtain ⟨cs, hrunM, hle, hcm⟩ := hM (w.drewN n1)
    have hcall : (callFunc 49 #[.int .i64 (k : Int)]).run Try.prog (w.drewN n1) = .ok (.value (.slice (some ⟨w.heap.size, 0, none⟩) k cs.size)) ((w.alloc (.cells cs 5)).drewN (n1 + 2)) := by
      rw [run_callFunc_extern Try.func49 (by kernel_rfl) (by kernel_rfl) (by kernel_rfl) (e := Extern.BytealgMakeNoZero.makeNoZero #[3] #[26]) (by kernel_rfl), hrunM]
      rfl
    clear hrunM hM
    have i0 : (0 : Int) ≤ (k : Int) := by omega
    have i1 : (k : Int) ≤ (cs.size : Int) := by omega
    have B0 : Lib.Buf w _ w.heap.size k [] := Lib.Buf.start w cs 5 k (n1 + 2) hle
    obtain ⟨w2, hr1, B1⟩ := Lib.copy_part (P := Try.prog) w _ w.heap.size k [] [x] (.slice (some ad) 1 c) 26 3 5 Try.underlying26 (by kernel_rfl) (Nat.le_refl _) B0 ⟨some ad, c, rfl, (fun h => absurd h (by simp)), hcells⟩ (by simp; omega)
    rw [List.length_nil, Lib.tailV_zero] at hr1
    rw [List.nil_append] at B1
    have HB1 := Lib.hid B1
    clear B0 B1
    go_wp2_with (at_builtin; refine Lib.wpList_copy_run _ rfl _ _ 26 26 rfl _ _ rfl rfl hr1 ?_)
    clear hcall hr1
    go_loopg [10] (k : Nat) (fun g s10 wr => ∃ bp : Nat, 1 ≤ bp ∧ bp ≤ k ∧ k - bp ≤ g ∧ s10 = .int .i64 (bp : Int) ∧ Aside (Lib.Buf w wr w.heap.size k (List.replicate bp x)))
    case atStart => exact ⟨1, by omega, by omega, by omega, rfl, HB1⟩
    case round =>
      obtain ⟨bp, hb1, hbk, hg, rfl, HB⟩ := hrel
      by_cases hlt : bp < k
      · have hd := decide_eq_true (show (bp : Int) < (k : Int) by omega)
        have hB := HB.out
        clear HB
        have hsl1 : ∀ W, (Instr.slice 26 (.slice (some ⟨w.heap.size, 0, none⟩) k k) (some (.int .i64 (bp : Int))) none none).run Try.prog W = .ok (Lib.tailV w.heap.size k bp) W := fun W => Lib.run_slice_tailV W 26 5 Try.underlying26 (fun W => by kernel_rfl) w.heap.size k bp (by omega)
        by_cases h8 : (8192 : Int) < (bp : Int)
        · first
          | (exfalso; have := of_decide_eq_false hb8; omega)
          | (have i2 : (8192 : Int) ≤ (k : Int) := by omega
             go_wp2_with fail
             refine start_ (n := 10) (S := fun w' => Lib.Buf w w' w.heap.size k (List.replicate bp x)) (ds := [7]) #[false, false, false, false, false, false, false, false, false, false] (by kernel_rfl) rfl rfl (buf_drew hB 1) (fun hHeld => ?_)
             refine pure_ (i := 0) (N := some 67) (v := ?_) (a' := ?_) #[true, false, false, false, false, false, false, false, false, false] rfl rfl (by kernel_rfl) (fun _ _ _ h => h) (Or.inl ⟨by rfl, ?_⟩) ?_ ?_
             rotate_left
             · intro w'
               go_simp
               with_reducible rfl
             rotate_left
             · simp only [Act.put, List.setIfInBounds_toArray, List.set_cons_zero, List.set_cons_succ, i64_w, i32_w]
               rfl
             refine pure_ (i := 1) (N := some 68) (v := ?_) (a' := ?_) #[true, true, false, false, false, false, false, false, false, false] rfl rfl (by kernel_rfl) (fun _ _ _ h => h) (Or.inl ⟨by rfl, ?_⟩) ?_ ?_
             rotate_left
             · intro w'
               go_simp
               with_reducible rfl
             rotate_left
             · simp only [Act.put, List.setIfInBounds_toArray, List.set_cons_zero, List.set_cons_succ, i64_w, i32_w]
               rfl
             refine pure_ (i := 2) (N := some 69) (v := ?_) (a' := ?_) #[true, true, true, false, false, false, false, false, false, false] rfl rfl (by kernel_rfl) (fun _ _ _ h => h) (Or.inl ⟨by rfl, ?_⟩) ?_ ?_
             rotate_left
             · intro w'
               go_simp
               with_reducible rfl
             rotate_left
             · simp only [Act.put, List.setIfInBounds_toArray, List.set_cons_zero, List.set_cons_succ, i64_w, i32_w]
               rfl
             refine pure_ (i := 3) (N := some 70) (v := ?_) (a' := ?_) #[true, true, true, true, false, false, false, false, false, false] rfl rfl (by kernel_rfl) (fun _ _ _ h => h) (Or.inl ⟨by rfl, ?_⟩) ?_ ?_
             rotate_left
             · intro w'
               go_simp
               with_reducible rfl
             rotate_left
             · simp only [Act.put, List.setIfInBounds_toArray, List.set_cons_zero, List.set_cons_succ, i64_w, i32_w]
               rfl
             refine pure_ (i := 4) (N := some 71) (v := ?_) (a' := ?_) #[true, true, true, true, true, false, false, false, false, false] rfl rfl (by kernel_rfl) (fun _ _ _ h => h) (Or.inl ⟨by rfl, ?_⟩) ?_ ?_
             rotate_left
             · intro w'
               go_simp
               with_reducible rfl
             rotate_left
             · simp only [Act.put, List.setIfInBounds_toArray, List.set_cons_zero, List.set_cons_succ, i64_w, i32_w]
               rfl
             refine pure_ (i := 5) (N := some 72) (v := ?_) (a' := ?_) #[true, true, true, true, true, true, false, false, false, false] rfl rfl (by kernel_rfl) (fun _ _ _ h => h) (Or.inl ⟨by rfl, ?_⟩) ?_ ?_
             rotate_left
             · intro w'
               go_simp
               with_reducible rfl
             rotate_left
             · simp only [Act.put, List.setIfInBounds_toArray, List.set_cons_zero, List.set_cons_succ, i64_w, i32_w]
               rfl
             refine pure_ (i := 6) (N := some 73) (v := ?_) (a' := ?_) #[true, true, true, true, true, true, true, false, false, false] rfl rfl (by kernel_rfl) (fun _ _ _ h => h) (Or.inl ⟨by rfl, ?_⟩) ?_ ?_
             rotate_left
             · intro w'
               go_simp
               with_reducible rfl
             rotate_left
             · simp only [Act.put, List.setIfInBounds_toArray, List.set_cons_zero, List.set_cons_succ, i64_w, i32_w]
               rfl
             refine last_ (i := 7) (N := some 74) #[true, true, true, true, true, true, true, true, false, false] rfl rfl (by kernel_rfl) (by decide) (fun K hK => ?_)
             obtain ⟨w5, m, hm1, hmk, hr5, B5⟩ := copy_self w _ w.heap.size k bp 8192 x 26 3 5 Try.underlying26 (by kernel_rfl) hHeld (by omega) (by omega) (by omega)
             refine step_run rfl (.tmp 70) (.tmp 73) 26 26 rfl _ _ rfl rfl hr5 ?_
             refine hK.out _ _ ?_
             clear hK K
             refine norm_ (a' := ?_) ?_ ?_
             rotate_left
             · show Act.put _ (some 74) _ = _
               simp only [Act.put, List.setIfInBounds_toArray, List.set_cons_zero, List.set_cons_succ, i64_w, i32_w]
               rfl
             refine pure_ (i := 8) (N := some 75) (v := ?_) (a' := ?_) #[true, true, true, true, true, true, true, true, true, false] rfl rfl (by kernel_rfl) (fun _ _ _ h => h) (Or.inl ⟨by rfl, ?_⟩) ?_ ?_
             rotate_left
             · intro w'
               go_simp
               with_reducible rfl
             rotate_left
             · simp only [Act.put, List.setIfInBounds_toArray, List.set_cons_zero, List.set_cons_succ, i64_w, i32_w]
               rfl
             refine pure_ (i := 9) (N := some 10) (v := ?_) (a' := ?_) #[true, true, true, true, true, true, true, true, true, true] rfl rfl (by kernel_rfl) (fun _ _ _ h => h) (Or.inl ⟨by rfl, ?_⟩) ?_ ?_
             rotate_left
             · intro w'
               go_simp
               with_reducible rfl
             rotate_left
             · simp only [Act.put, List.setIfInBounds_toArray, List.set_cons_zero, List.set_cons_succ, i64_w, i32_w]
               rfl
             refine done_ (by kernel_rfl) ?_
             go_wp2
             go_roundg (k - (bp + m))
             case measure => omega
             case rel => exact ⟨bp + m, by omega, by omega, by omega, by rw [show wrap64 ((bp : Int) + (m : Int)) = ((bp + m : Nat) : Int) by unfold wrap64; omega], B5⟩)
        · go_wp2_with fail
          refine start_ (n := 10) (S := fun w' => Lib.Buf w w' w.heap.size k (List.replicate bp x)) (ds := [7]) #[false, false, false, false, false, false, false, false, false, false] (by kernel_rfl) rfl rfl (buf_drew hB 1) (fun hHeld => ?_)
          refine pure_ (i := 0) (N := some 67) (v := ?_) (a' := ?_) #[true, false, false, false, false, false, false, false, false, false] rfl rfl (by kernel_rfl) (fun _ _ _ h => h) (Or.inl ⟨by rfl, ?_⟩) ?_ ?_
          rotate_left
          · intro w'
            go_simp
            with_reducible rfl
          rotate_left
          · simp only [Act.put, List.setIfInBounds_toArray, List.set_cons_zero, List.set_cons_succ, i64_w, i32_w]
            rfl
          refine pure_ (i := 1) (N := some 68) (v := ?_) (a' := ?_) #[true, true, false, false, false, false, false, false, false, false] rfl rfl (by kernel_rfl) (fun _ _ _ h => h) (Or.inl ⟨by rfl, ?_⟩) ?_ ?_
          rotate_left
          · intro w'
            go_simp
            with_reducible rfl
          rotate_left
          · simp only [Act.put, List.setIfInBounds_toArray, List.set_cons_zero, List.set_cons_succ, i64_w, i32_w]
            rfl
          refine pure_ (i := 2) (N := some 69) (v := ?_) (a' := ?_) #[true, true, true, false, false, false, false, false, false, false] rfl rfl (by kernel_rfl) (fun _ _ _ h => h) (Or.inl ⟨by rfl, ?_⟩) ?_ ?_
          rotate_left
          · intro w'
            go_simp
            with_reducible rfl
          rotate_left
          · simp only [Act.put, List.setIfInBounds_toArray, List.set_cons_zero, List.set_cons_succ, i64_w, i32_w]
            rfl
          refine pure_ (i := 3) (N := some 70) (v := ?_) (a' := ?_) #[true, true, true, true, false, false, false, false, false, false] rfl rfl (by kernel_rfl) (fun _ _ _ h => h) (Or.inl ⟨by rfl, ?_⟩) ?_ ?_
          rotate_left
          · intro w'
            go_simp
            with_reducible rfl
          rotate_left
          · simp only [Act.put, List.setIfInBounds_toArray, List.set_cons_zero, List.set_cons_succ, i64_w, i32_w]
            rfl
          refine pure_ (i := 4) (N := some 71) (v := ?_) (a' := ?_) #[true, true, true, true, true, false, false, false, false, false] rfl rfl (by kernel_rfl) (fun _ _ _ h => h) (Or.inl ⟨by rfl, ?_⟩) ?_ ?_
          rotate_left
          · intro w'
            go_simp
            with_reducible rfl
          rotate_left
          · simp only [Act.put, List.setIfInBounds_toArray, List.set_cons_zero, List.set_cons_succ, i64_w, i32_w]
            rfl
          refine pure_ (i := 5) (N := some 72) (v := ?_) (a' := ?_) #[true, true, true, true, true, true, false, false, false, false] rfl rfl (by kernel_rfl) (fun _ _ _ h => h) (Or.inl ⟨by rfl, ?_⟩) ?_ ?_
          rotate_left
          · intro w'
            go_simp
            with_reducible rfl
          rotate_left
          · simp only [Act.put, List.setIfInBounds_toArray, List.set_cons_zero, List.set_cons_succ, i64_w, i32_w]
            rfl
          refine pure_ (i := 6) (N := some 73) (v := ?_) (a' := ?_) #[true, true, true, true, true, true, true, false, false, false] rfl rfl (by kernel_rfl) (fun _ _ _ h => h) (Or.inl ⟨by rfl, ?_⟩) ?_ ?_
          rotate_left
          · intro w'
            go_simp
            with_reducible rfl
          rotate_left
          · simp only [Act.put, List.setIfInBounds_toArray, List.set_cons_zero, List.set_cons_succ, i64_w, i32_w]
            rfl
          refine last_ (i := 7) (N := some 74) #[true, true, true, true, true, true, true, true, false, false] rfl rfl (by kernel_rfl) (by decide) (fun K hK => ?_)
          obtain ⟨w5, m, hm1, hmk, hr5, B5⟩ := copy_self w _ w.heap.size k bp bp x 26 3 5 Try.underlying26 (by kernel_rfl) hHeld (by omega) (by omega) (by omega)
          refine step_run rfl (.tmp 70) (.tmp 73) 26 26 rfl _ _ rfl rfl hr5 ?_
          refine hK.out _ _ ?_
          clear hK K
          refine norm_ (a' := ?_) ?_ ?_
          rotate_left
          · show Act.put _ (some 74) _ = _
            simp only [Act.put, List.setIfInBounds_toArray, List.set_cons_zero, List.set_cons_succ, i64_w, i32_w]
            rfl
          refine pure_ (i := 8) (N := some 75) (v := ?_) (a' := ?_) #[true, true, true, true, true, true, true, true, true, false] rfl rfl (by kernel_rfl) (fun _ _ _ h => h) (Or.inl ⟨by rfl, ?_⟩) ?_ ?_
          rotate_left
          · intro w'
            go_simp
            with_reducible rfl
          rotate_left
          · simp only [Act.put, List.setIfInBounds_toArray, List.set_cons_zero, List.set_cons_succ, i64_w, i32_w]
            rfl
          refine pure_ (i := 9) (N := some 10) (v := ?_) (a' := ?_) #[true, true, true, true, true, true, true, true, true, true] rfl rfl (by kernel_rfl) (fun _ _ _ h => h) (Or.inl ⟨by rfl, ?_⟩) ?_ ?_
          rotate_left
          · intro w'
            go_simp
            with_reducible rfl
          rotate_left
          · simp only [Act.put, List.setIfInBounds_toArray, List.set_cons_zero, List.set_cons_succ, i64_w, i32_w]
            rfl
          refine done_ (by kernel_rfl) ?_
          go_wp2
          go_roundg (k - (bp + m))
          case measure => omega
          case rel => exact ⟨bp + m, by omega, by omega, by omega, by rw [show wrap64 ((bp : Int) + (m : Int)) = ((bp + m : Nat) : Int) by unfold wrap64; omega], B5⟩
      · obtain rfl : bp = k := by omega
        have hd := decide_eq_false (show ¬ (bp : Int) < (bp : Int) by omega)
        go_wp2
        go_ret
        refine ⟨_, _, rfl, Nat.le_refl _, ?_, HB.out.below⟩
        refine ⟨by rw [List.length_replicate], by omega, fun _ => ⟨_, rfl, fun j hj => ?_⟩⟩
        rw [add_p2, Nat.zero_add, HB.out.holds j x (by rw [List.getElem?_replicate, if_pos hj])]
        simp [List.getD, List.getElem?_replicate, hj]
end Go.Proofs.Ytkecppgodmbmlaa.RU
