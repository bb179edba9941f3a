/- The own texts that the statement SectorKnown leans on: SecP, SecMap, SecW, SecRead, SecPut, SecWrite, SecLog, SecCut, SecCopy, SecNo, SecWorks, SecWrit, SecAlike, SecLast, SecCuts, SecKnown, SecArg. -/
import Derived.Lib.TrimByte
import Derived.Lib.Repeat
import Derived.Maps.OwnSet
import Derived.Maps.Range
import Derived.Lib.SlKeysI
import Derived.Test.YteooldbdilkmeaaDoorProg
import Derived.Test.YteooldbdilkmeaaDoorWLast
import Derived.Test.YteooldbdilkmeaaDoorWMore
import Derived.Lib.Hide
import Derived.Outline
import Derived.Deep.DeepCutAuto
import Derived.Shelf.SlMaps.Clone
import Derived.Test.YteooldbdilkmeaaDoorShelf
import Derived.Test.YteooldbdilkmeaaDoorIter
import Derived.Lib.SliceRun
import Derived.Lib.ConvBytes
import Derived.Deep.Slices
import Derived.Deep.Fields
import Derived.ChangeSame
import Derived.DataShut
import Derived.RowKit
import Derived.ChangeSlices
import Derived.OpenShut
import Derived.Lib.SmallJoins
namespace Go.Proofs.YteooldbdilkmeaaDoor.SC
set_option linter.unusedVariables false
set_option linter.unusedSimpArgs false
abbrev Hist := List (Nat × ByteArray)
def E0 : ByteArray := ByteArray.empty
def trim (s : ByteArray) : ByteArray := ⟨(Lib.trimRightB s.data.toList 0).toArray⟩
def zeros (n : Nat) : ByteArray := ⟨(List.replicate n (0 : UInt8)).toArray⟩
def full (s : ByteArray) : ByteArray := s ++ zeros (512 - s.size)
def Slim (s : ByteArray) : Prop := s.size ≤ 512 ∧ trim s = s
theorem dropW : ∀ (l : List UInt8), ∃ k, l = List.replicate k 0 ++ l.dropWhile (· == 0) ∧ (∀ b, (l.dropWhile (· == 0)).head? = some b → b ≠ 0)
  | [] => ⟨0, rfl, by simp⟩
  | b :: r => by
    by_cases h : b = 0
    · subst h
      obtain ⟨k, h1, h2⟩ := dropW r
      refine ⟨k + 1, ?_, ?_⟩
      · rw [List.dropWhile_cons_of_pos (by rfl), List.replicate_succ, List.cons_append, ← h1]
      · rw [List.dropWhile_cons_of_pos (by rfl)]; exact h2
    · refine ⟨0, ?_, ?_⟩
      · rw [List.dropWhile_cons_of_neg (by simpa using h)]; rfl
      · rw [List.dropWhile_cons_of_neg (by simpa using h)]
        intro c hc
        simp at hc
        rw [← hc]; exact h
theorem trimL_split (l : List UInt8) : ∃ k, l = Lib.trimRightB l 0 ++ List.replicate k 0 := by
  obtain ⟨k, h, _⟩ := dropW l.reverse
  refine ⟨k, ?_⟩
  have := congrArg List.reverse h
  rw [List.reverse_reverse, List.reverse_append, List.reverse_replicate] at this
  exact this
theorem dropW_rep (k : Nat) (l : List UInt8) : (List.replicate k 0 ++ l).dropWhile (· == 0) = l.dropWhile (· == 0) := by
  induction k with
  | zero => rfl
  | succ k ih => rw [List.replicate_succ, List.cons_append, List.dropWhile_cons_of_pos (by rfl), ih]
theorem trimL_zeros (l : List UInt8) (k : Nat) : Lib.trimRightB (l ++ List.replicate k 0) 0 = Lib.trimRightB l 0 := by
  unfold Lib.trimRightB
  rw [List.reverse_append, List.reverse_replicate, dropW_rep]
theorem trimL_trimL (l : List UInt8) : Lib.trimRightB (Lib.trimRightB l 0) 0 = Lib.trimRightB l 0 := by
  obtain ⟨k, h⟩ := trimL_split l
  have := trimL_zeros (Lib.trimRightB l 0) k
  rw [← h] at this
  exact this.symm
theorem ext' {a b : ByteArray} (h : a.data.toList = b.data.toList) : a = b := by
  cases a; cases b
  congr 1
  exact Array.toList_inj.1 h
theorem toL_append (a b : ByteArray) : (a ++ b).data.toList = a.data.toList ++ b.data.toList := by
  rw [ByteArray.data_append, Array.toList_append]
theorem size_toL (a : ByteArray) : a.size = a.data.toList.length := rfl
theorem trim_toL (s : ByteArray) : (trim s).data.toList = Lib.trimRightB s.data.toList 0 := rfl
theorem zeros_toL (n : Nat) : (zeros n).data.toList = List.replicate n 0 := rfl
theorem full_toL (s : ByteArray) : (full s).data.toList = s.data.toList ++ List.replicate (512 - s.size) 0 := by
  unfold full; rw [toL_append]; rfl
theorem trim_trim (s : ByteArray) : trim (trim s) = trim s := ext' (by rw [trim_toL, trim_toL, trimL_trimL])
theorem trim_size (s : ByteArray) : (trim s).size ≤ s.size := by
  obtain ⟨k, h⟩ := trimL_split s.data.toList
  have := congrArg List.length h
  rw [List.length_append, List.length_replicate] at this
  rw [size_toL, size_toL, trim_toL]
  omega
theorem trim_slim (s : ByteArray) (h : s.size ≤ 512) : Slim (trim s) := ⟨Nat.le_trans (trim_size s) h, trim_trim s⟩
theorem slim_empty : Slim E0 := ⟨by decide, by decide⟩
theorem full_size (s : ByteArray) (h : s.size ≤ 512) : (full s).size = 512 := by
  rw [size_toL, full_toL, List.length_append, List.length_replicate, ← size_toL]
  omega
theorem full_zeros : full E0 = zeros 512 := ext' (by rw [full_toL]; rfl)
def upd (f : Nat → ByteArray) (a : Nat) (s : ByteArray) : Nat → ByteArray := fun i => if i = a then s else f i
def cont (h : Hist) : Nat → ByteArray := h.foldl (fun f p => upd f p.1 p.2) fun _ => E0
theorem cont_snoc (h : Hist) (a : Nat) (s : ByteArray) : cont (h ++ [(a, s)]) = upd (cont h) a s := by unfold cont; rw [List.foldl_append]; rfl
def Good (n : Nat) (h : Hist) : Prop := ∀ p ∈ h, p.1 < n ∧ Slim p.2
theorem Good.nil (n : Nat) : Good n [] := fun p hp => by cases hp
theorem Good.snoc {n : Nat} {h : Hist} (g : Good n h) {a : Nat} {s : ByteArray} (ha : a < n) (hs : Slim s) : Good n (h ++ [(a, s)]) := fun p hp => by
  rcases List.mem_append.1 hp with hp | hp
  · exact g p hp
  · obtain rfl := List.mem_singleton.1 hp
    exact ⟨ha, hs⟩
theorem Good.take {n : Nat} {h : Hist} (g : Good n h) (k : Nat) : Good n (h.take k) := fun p hp => g p (List.mem_of_mem_take hp)
theorem Good.drop {n : Nat} {h : Hist} (g : Good n h) (k : Nat) : Good n (h.drop k) := fun p hp => g p (List.mem_of_mem_drop hp)
theorem snoc_ind {P : Hist → Prop} (h0 : P []) (hs : ∀ h a s, P h → P (h ++ [(a, s)])) : ∀ h, P h := fun h => by
  have key : ∀ l : Hist, P l.reverse := fun l => by
    induction l with
    | nil => exact h0
    | cons p r ih => rw [List.reverse_cons]; exact hs _ p.1 p.2 ih
  have := key h.reverse
  rwa [List.reverse_reverse] at this
theorem Good.init {n : Nat} {h : Hist} {a : Nat} {s : ByteArray} (g : Good n (h ++ [(a, s)])) : Good n h := fun p hp => g p (List.mem_append_left _ hp)
theorem Good.last {n : Nat} {h : Hist} {a : Nat} {s : ByteArray} (g : Good n (h ++ [(a, s)])) : a < n ∧ Slim s := g (a, s) (by simp)
theorem cont_slim {n : Nat} : ∀ h : Hist, Good n h → ∀ i, Slim (cont h i) := snoc_ind (fun _ i => slim_empty) fun h a s ih g i => by
  rw [cont_snoc]
  unfold upd
  by_cases hi : i = a
  · rw [if_pos hi]; exact g.last.2
  · rw [if_neg hi]; exact ih g.init i
theorem upd_back (f : Nat → ByteArray) (a : Nat) (s : ByteArray) : upd (upd f a s) a (f a) = f := by
  funext i
  unfold upd
  by_cases h : i = a
  · rw [if_pos h, h]
  · rw [if_neg h, if_neg h]
theorem take_next (h : Hist) (k : Nat) (hk : k < h.length) : h.take (k + 1) = h.take k ++ [h[k]] := by rw [List.take_succ_eq_append_getElem hk]
theorem cont_back (h : Hist) (k : Nat) (hk : k < h.length) : upd (cont (h.take (k + 1))) (h[k]).1 (cont (h.take k) (h[k]).1) = cont (h.take k) := by
  have e : h.take (k + 1) = h.take k ++ [((h[k]).1, (h[k]).2)] := take_next h k hk
  rw [e, cont_snoc, upd_back]
def used (n : Nat) (f : Nat → ByteArray) : List Nat := (List.range n).filter fun i => !decide (f i = E0)
theorem used_mem {n : Nat} {f : Nat → ByteArray} (i : Nat) : i ∈ used n f ↔ i < n ∧ f i ≠ E0 := by
  unfold used
  simp
theorem used_sorted (n : Nat) (f : Nat → ByteArray) : (used n f).Pairwise (· < ·) := List.Pairwise.filter _ List.pairwise_lt_range
end Go.Proofs.YteooldbdilkmeaaDoor.SC

namespace Go.Proofs.YteooldbdilkmeaaDoor.SC
open Go Go.Maps
set_option linter.unusedVariables false
set_option linter.unusedSimpArgs false
def heldV (s : ByteArray) : Value := .agg #[.string s]
def heldD (s : ByteArray) : DataW Unit := .lit (.string s.data.toList)
def heldE : Value → Option (DataW Unit × List MemPlace)
  | .agg cs => match cs.toList with
    | [.string s] => some (heldD s, [])
    | _ => none
  | _ => none
theorem heldE_mk (s : ByteArray) : heldE (heldV s) = some (heldD s, []) := rfl
theorem heldE_inv {v : Value} {z : DataW Unit × List MemPlace} (h : heldE v = some z) : ∃ s, v = heldV s ∧ z = (heldD s, []) := by
  unfold heldE at h
  split at h
  · rename_i cs
    split at h
    · rename_i s hs
      injection h with h
      refine ⟨s, ?_, h.symm⟩
      unfold heldV
      congr 1
      exact Array.toList_inj.1 hs
    · cases h
  · cases h
theorem heldD_inj {a b : ByteArray} (h : heldD a = heldD b) : a = b := by
  unfold heldD at h
  injection h with h
  injection h with h
  exact ext' h
abbrev kx (i : Nat) : Lit := .int .i64 (i : Int)
theorem kx_key (x : Int) : WideAt.IsKeyLit (.int .i64 x) := trivial
theorem kx_ne {i j : Int} (h : i ≠ j) : (Lit.int .i64 i) ≠ Lit.int .i64 j := fun e => h (by injection e)
structure MapIs (D : DataW Unit) (n : Nat) (f : Nat → ByteArray) : Prop where
  tidy : Tidy D
  at_ : ∀ i : Nat, D.atKey (kx i) (heldD E0) = heldD (f i)
  has_ : ∀ x : Int, Maps.has D (.int .i64 x) = true ↔ ∃ i : Nat, x = (i : Int) ∧ i < n ∧ f i ≠ E0
theorem MapIs.made (n : Nat) : MapIs (.map []) n fun _ => E0 :=
  ⟨tidy_empty, fun i => rfl, fun x => ⟨fun h => by simp [Maps.has] at h, fun ⟨i, _, _, h⟩ => absurd rfl h⟩⟩
theorem MapIs.put {D : DataW Unit} {n : Nat} {f : Nat → ByteArray} (h : MapIs D n f) {i : Nat} (hi : i < n) {s : ByteArray} (hs : s ≠ E0) : MapIs (D.put (kx i) (heldD s)) n (upd f i s) := by
  refine ⟨h.tidy.put (kx_key _) _, fun j => ?_, fun x => ?_⟩
  · unfold upd
    by_cases e : j = i
    · rw [if_pos e, e, atKey_put_same h.tidy.isMap (kx_key _)]
    · rw [if_neg e, atKey_put_other (kx_ne (by omega)), h.at_]
  · by_cases e : x = (i : Int)
    · subst e
      rw [show (Lit.int .i64 (i : Int)) = kx i from rfl, has_put_same h.tidy.isMap (kx_key _)]
      exact ⟨fun _ => ⟨i, rfl, hi, by unfold upd; rw [if_pos rfl]; exact hs⟩, fun _ => rfl⟩
    · rw [has_put_other (kx_ne e), h.has_]
      constructor
      · rintro ⟨j, rfl, h1, h2⟩
        exact ⟨j, rfl, h1, by unfold upd; rw [if_neg (by omega)]; exact h2⟩
      · rintro ⟨j, rfl, h1, h2⟩
        unfold upd at h2
        rw [if_neg (by omega)] at h2
        exact ⟨j, rfl, h1, h2⟩
theorem MapIs.del {D : DataW Unit} {n : Nat} {f : Nat → ByteArray} (h : MapIs D n f) (i : Nat) : MapIs (D.del (kx i)) n (upd f i E0) := by
  refine ⟨h.tidy.del _, fun j => ?_, fun x => ?_⟩
  · unfold upd
    by_cases e : j = i
    · rw [if_pos e, e, atKey_del_same]
    · rw [if_neg e, atKey_del_other (kx_ne (by omega)), h.at_]
  · by_cases e : x = (i : Int)
    · subst e
      rw [show (Lit.int .i64 (i : Int)) = kx i from rfl, has_del_same]
      refine ⟨fun h => by simp at h, fun ⟨j, h1, _, h2⟩ => ?_⟩
      obtain rfl : i = j := by omega
      unfold upd at h2
      rw [if_pos rfl] at h2
      exact absurd rfl h2
    · rw [has_del_other (kx_ne e), h.has_]
      constructor
      · rintro ⟨j, rfl, h1, h2⟩
        exact ⟨j, rfl, h1, by unfold upd; rw [if_neg (by omega)]; exact h2⟩
      · rintro ⟨j, rfl, h1, h2⟩
        unfold upd at h2
        rw [if_neg (by omega)] at h2
        exact ⟨j, rfl, h1, h2⟩
theorem MapIs.congr {D : DataW Unit} {n : Nat} {f g : Nat → ByteArray} (h : MapIs D n f) (e : f = g) : MapIs D n g := e ▸ h
section
variable {P : Program} {k : TypeId} {W : World} {b nn n : Nat} {D : DataW Unit} {f : Nat → ByteArray}
theorem keys_are (hk : P.underlying k = some (.int .i64)) (hown : W.ownsMap P k heldE b nn D) : ∃ es, D = .map es ∧ es.Pairwise (fun p q => p.1 ≠ q.1) ∧ ∀ p ∈ es, ∃ x, p.1 = Lit.int .i64 x := by
  obtain ⟨es, hD, hpw, _⟩ := hown.entries (int_keyed hk)
  refine ⟨es, hD, hpw, fun p hp => ?_⟩
  obtain ⟨ms, clock, _, F, _, hD2⟩ := hown
  rw [hD] at hD2
  injection hD2 with hD2
  rw [hD2] at hp
  obtain ⟨x, hx, rfl⟩ := List.mem_map.1 (mem_sorted.1 hp)
  obtain ⟨y, hy⟩ := F.reads x hx
  rw [WideElems.rg_of hy]
  obtain ⟨x', _, hkl, _⟩ := Maps.keyOf_i64 hk (WideElems.rd_key hy)
  exact ⟨x', hkl⟩
theorem keys_used (hk : P.underlying k = some (.int .i64)) (hown : W.ownsMap P k heldE b nn D) (h : MapIs D n f) : ((used n f).map fun (i : Nat) => (i : Int)).Perm (intKeys D) := by
  obtain ⟨es, rfl, hpw, hks⟩ := keys_are hk hown
  refine perm_intKeys hpw hks ?_ fun x => ?_
  · have := (used_sorted n f).imp (fun {a b} (h : a < b) => Nat.ne_of_lt h)
    exact List.Pairwise.map _ (fun a b hab e => hab (by omega)) this
  · rw [h.has_, List.mem_map]
    constructor
    · rintro ⟨i, hi, rfl⟩
      have := (used_mem i).1 hi
      exact ⟨i, rfl, this.1, this.2⟩
    · rintro ⟨i, rfl, h1, h2⟩
      exact ⟨i, (used_mem i).2 ⟨h1, h2⟩, rfl⟩
theorem used_le (n : Nat) (f : Nat → ByteArray) : (used n f).length ≤ n := by
  have := List.length_filter_le (fun i => !decide (f i = E0)) (List.range n)
  rw [List.length_range] at this
  exact this
theorem size_used (hk : P.underlying k = some (.int .i64)) (hown : W.ownsMap P k heldE b nn D) (h : MapIs D n f) : Maps.size D = (used n f).length := by
  have hl := (keys_used hk hown h).length_eq
  rw [List.length_map] at hl
  obtain ⟨es, hD, _⟩ := keys_are hk hown
  subst hD
  rw [hl]
  simp [Maps.size, intKeys]
theorem own_norm (hk : P.underlying k = some (.int .i64)) (hown : W.ownsMap P k heldE b nn D) (h : MapIs D n f) : W.ownsMap P k heldE b n D := by
  have hs := size_used hk hown h
  have hle := used_le n f
  obtain ⟨es, clock, hb, F, _, hD⟩ := hown
  refine ⟨es, clock, hb, F, ?_, hD⟩
  rw [hD] at hs
  simp only [Maps.size, length_sorted, List.length_map, Array.length_toList] at hs
  omega
theorem sorted_used (hk : P.underlying k = some (.int .i64)) (hown : W.ownsMap P k heldE b nn D) (h : MapIs D n f) {ss : List Int} (hp : ss.Perm (intKeys D)) : ss.mergeSort (fun x y => decide (x ≤ y)) = (used n f).map fun (i : Nat) => (i : Int) := by
  have e := mergeSort_of_perm_i (hp.trans (keys_used hk hown h).symm)
  have : ((used n f).map fun (i : Nat) => (i : Int)).mergeSort leI = (used n f).map fun (i : Nat) => (i : Int) := by
    refine List.mergeSort_of_pairwise ?_
    refine List.Pairwise.map _ (fun a b hab => ?_) (used_sorted n f)
    show decide ((a : Int) ≤ (b : Int)) = true
    have : a < b := hab
    exact decide_eq_true (by omega)
  rw [this] at e
  exact e
end
end Go.Proofs.YteooldbdilkmeaaDoor.SC

namespace Go.Proofs.YteooldbdilkmeaaDoor.SC
open Go.RowKit Go.Maps Go.Proofs.YteooldbdilkmeaaDoorW.PrintWords Go.Proofs.YteooldbdilkmeaaDoorW.PrintLast Go.Proofs.YteooldbdilkmeaaDoorW.PrintMore
set_option linter.unusedVariables false
set_option linter.unusedSimpArgs false
abbrev ixOf (v : Value) : Int := Go.RowKit.intOf v
abbrev Wr := Int × (ByteArray × ByteArray)
abbrev Wa := Int × ByteArray
def kW : Kd Wr := Kd.pair (Kd.int .i64) (Kd.pair Kd.string Kd.string)
def kA : Kd Wa := Kd.pair (Kd.int .i64) Kd.string
def wCells (x : Wr) : List Value := [.int .i64 x.1, .string x.2.1, .string x.2.2]
def aCells (x : Wa) : List Value := [.int .i64 x.1, .string x.2]
theorem kW_mk (w : World) (base : Nat) (ok : Nat → Prop) (x : Wr) : kW.M w base ok x (wCells x) := ⟨[.int .i64 x.1], [.string x.2.1, .string x.2.2], rfl, rfl, ⟨[.string x.2.1], [.string x.2.2], rfl, rfl, rfl⟩⟩
theorem kA_mk (w : World) (base : Nat) (ok : Nat → Prop) (x : Wa) : kA.M w base ok x (aCells x) := ⟨[.int .i64 x.1], [.string x.2], rfl, rfl, rfl⟩
theorem kW_open {w : World} {x : Wr} {cs : List Value} (h : kW.K w x cs) : cs = wCells x := by
  obtain ⟨_, _, rfl, rfl, ⟨_, _, rfl, rfl, rfl⟩⟩ := h
  rfl
theorem kA_open {w : World} {x : Wa} {cs : List Value} (h : kA.K w x cs) : cs = aCells x := by
  obtain ⟨_, _, rfl, rfl, rfl⟩ := h
  rfl
theorem kW_move {w w1 : World} {e base : Nat} {v : Value} {xs : List Wr} (h : kW.R e w base (fun _ => True) v xs) (hm : ∀ k, v.ownBlock = some k → w1.heap[k]? = w.heap[k]?) : kW.R e w1 base (fun _ => True) v xs := by
  obtain ⟨_, inner, ho, hr⟩ := h
  exact ⟨fun _ _ => trivial, inner, own_move ho hm, hr⟩
def entry (h : Hist) (k : Nat) : Wr := (((h.getD k (0, E0)).1 : Int), (h.getD k (0, E0)).2, cont (h.take k) (h.getD k (0, E0)).1)
def logOf (h : Hist) (kept : Nat) : List Wr := (List.range (h.length - kept)).map fun j => entry h (kept + j)
theorem logOf_length (h : Hist) (kept : Nat) : (logOf h kept).length = h.length - kept := by simp [logOf]
theorem entry_snoc (h : Hist) (a : Nat) (s : ByteArray) (k : Nat) (hk : k < h.length) : entry (h ++ [(a, s)]) k = entry h k := by
  unfold entry
  have e1 : (h ++ [(a, s)]).getD k (0, E0) = h.getD k (0, E0) := by rw [List.getD_eq_getElem?_getD, List.getD_eq_getElem?_getD, List.getElem?_append_left hk]
  rw [e1, List.take_append_of_le_length (by omega)]
theorem entry_last (h : Hist) (a : Nat) (s : ByteArray) : entry (h ++ [(a, s)]) h.length = ((a : Int), s, cont h a) := by
  unfold entry
  have e1 : (h ++ [(a, s)]).getD h.length (0, E0) = (a, s) := by rw [List.getD_eq_getElem?_getD, List.getElem?_append_right (Nat.le_refl _)]; simp
  rw [e1, List.take_append_of_le_length (Nat.le_refl _), List.take_length]
theorem logOf_snoc (h : Hist) (kept : Nat) (hk : kept ≤ h.length) (a : Nat) (s : ByteArray) : logOf (h ++ [(a, s)]) kept = logOf h kept ++ [((a : Int), s, cont h a)] := by
  unfold logOf
  rw [List.length_append, List.length_singleton, show h.length + 1 - kept = (h.length - kept) + 1 by omega, List.range_succ, List.map_append, List.map_singleton, show kept + (h.length - kept) = h.length by omega, entry_last]
  congr 1
  apply List.map_congr_left
  intro j hj
  have := List.mem_range.1 hj
  exact entry_snoc h a s _ (by omega)
theorem logOf_none (h : Hist) : logOf h h.length = [] := by unfold logOf; rw [Nat.sub_self]; rfl
structure DkAt (W : World) (p M : Nat) (v : Value) (n : Nat) (h : Hist) (kept : Nat) : Prop where
  blk : W.heap[p]? = some (.cells #[.int .i64 (n : Int), .map (some M), v] 58 (0, 0))
  map : ∃ D, W.ownsMap Tryd.prog 3 heldE M n D ∧ MapIs D n (cont h)
  row : kW.R 65 W 0 (fun _ => True) v (logOf h kept)
  le : kept ≤ h.length
  good : Good n h
  nn : 256 ≤ n ∧ n ≤ 131072
theorem DkAt.map_blk {W : World} {p M n kept : Nat} {v : Value} {h : Hist} (H : DkAt W p M v n h kept) : ∃ es clock, W.heap[M]? = some (.map es clock) := by
  obtain ⟨D, ⟨es, clock, hb, _⟩, _⟩ := H.map
  exact ⟨es, clock, hb⟩
theorem DkAt.lt {W : World} {p M n kept : Nat} {v : Value} {h : Hist} (H : DkAt W p M v n h kept) : p < W.heap.size ∧ M < W.heap.size ∧ ∀ k, v.ownBlock = some k → k < W.heap.size := by
  obtain ⟨D, ho, _⟩ := H.map
  exact ⟨blk_lt H.blk, ho.lt, Kd.R_lt H.row⟩
theorem ownsMap_move {W W' : World} {M n : Nat} {D : DataW Unit} (h : W.ownsMap Tryd.prog 3 heldE M n D) (hM : W'.heap[M]? = W.heap[M]?) : W'.ownsMap Tryd.prog 3 heldE M n D := by
  obtain ⟨es, clock, hb, r⟩ := h
  exact ⟨es, clock, hM.trans hb, r⟩
theorem DkAt.move {W W' : World} {p M n kept : Nat} {v : Value} {h : Hist} (H : DkAt W p M v n h kept) (hp : W'.heap[p]? = W.heap[p]?) (hM : W'.heap[M]? = W.heap[M]?) (hv : ∀ k, v.ownBlock = some k → W'.heap[k]? = W.heap[k]?) : DkAt W' p M v n h kept := by
  obtain ⟨D, ho, hd⟩ := H.map
  exact ⟨hp.trans H.blk, ⟨D, ownsMap_move ho hM, hd⟩, kW_move H.row hv, H.le, H.good, H.nn⟩
theorem DkAt.below {W W' : World} {p M n kept : Nat} {v : Value} {h : Hist} (H : DkAt W p M v n h kept) {m : Nat} (hb : Below m W W') (hm : W.heap.size ≤ m) : DkAt W' p M v n h kept :=
  H.move (hb.block p (Nat.lt_of_lt_of_le H.lt.1 hm)) (hb.block M (Nat.lt_of_lt_of_le H.lt.2.1 hm)) fun k hk => hb.block k (Nat.lt_of_lt_of_le (H.lt.2.2 k hk) hm)
theorem DkAt.drew {W : World} {p M n kept : Nat} {v : Value} {h : Hist} (H : DkAt W p M v n h kept) : DkAt W.drew p M v n h kept := H.move rfl rfl fun _ _ => rfl
structure OnlyD (p M : Nat) (v : Value) (w w' : World) : Prop where
  os : w'.os = w.os
  tape : w'.tape = w.tape
  output : w'.output = w.output
  size : w.heap.size ≤ w'.heap.size
  block : ∀ k, k < w.heap.size → k ≠ p → k ≠ M → some k ≠ v.ownBlock → w'.heap[k]? = w.heap[k]?
theorem OnlyD.refl (p M : Nat) (v : Value) (w : World) : OnlyD p M v w w := ⟨rfl, rfl, rfl, Nat.le_refl _, fun _ _ _ _ _ => rfl⟩
def Moved (w : World) (v v' : Value) : Prop := v'.ownBlock = v.ownBlock ∨ ∀ k, v'.ownBlock = some k → w.heap.size ≤ k
theorem Moved.refl (w : World) (v : Value) : Moved w v v := .inl rfl
theorem Moved.trans {w w' : World} {v v' v'' : Value} (h : Moved w v v') (h' : Moved w' v' v'') (hs : w.heap.size ≤ w'.heap.size) : Moved w v v'' := by
  rcases h' with h' | h'
  · rcases h with h | h
    · exact .inl (h'.trans h)
    · exact .inr fun k hk => h k (h' ▸ hk)
  · exact .inr fun k hk => Nat.le_trans hs (h' k hk)
theorem OnlyD.trans {p M : Nat} {v v' : Value} {a b c : World} (h : OnlyD p M v a b) (k : OnlyD p M v' b c) (hm : Moved a v v') : OnlyD p M v a c :=
  ⟨k.os.trans h.os, k.tape.trans h.tape, k.output.trans h.output, Nat.le_trans h.size k.size, fun i hi h1 h2 h3 => (k.block i (Nat.lt_of_lt_of_le hi h.size) h1 h2 (fun e => by
    rcases hm with hm | hm
    · exact h3 (e.trans hm)
    · have := hm i e.symm; omega)).trans (h.block i hi h1 h2 h3)⟩
theorem OnlyD.of {p M n : Nat} {v : Value} {a b : World} (h : Below n a b) (hn : a.heap.size ≤ n) : OnlyD p M v a b := ⟨h.os, h.tape, h.output, h.size, fun k hk _ _ _ => h.block k (Nat.lt_of_lt_of_le hk hn)⟩
theorem OnlyD.grown {p M : Nat} {v : Value} {a b : World} {r : Option Nat} (h : a.grownBy b r) (hr : ∀ k, r = some k → k = p ∨ k = M ∨ some k = v.ownBlock ∨ a.heap.size ≤ k) : OnlyD p M v a b :=
  ⟨h.os, h.tape, h.output, h.size, fun k hk h1 h2 h3 => h.block k hk (fun e => by rcases hr k e.symm with h | h | h | h; exact h1 h; exact h2 h; exact h3 h; omega)⟩
theorem OnlyD.below {p M base : Nat} {v : Value} {a b c : World} (h : Below base a b) (o : OnlyD p M v b c) (hb : base ≤ b.heap.size) (hp : base ≤ p) (hM : base ≤ M) (hv : ∀ k, v.ownBlock = some k → base ≤ k) : Below base a c :=
  ⟨o.os.trans h.os, o.tape.trans h.tape, o.output.trans h.output, Nat.le_trans h.size o.size, fun k hk => (o.block k (Nat.lt_of_lt_of_le hk hb) (by omega) (by omega) (fun e => by have := hv k e.symm; omega)).trans (h.block k hk)⟩
theorem OnlyD.drew {p M : Nat} {v : Value} {a b : World} (h : OnlyD p M v a b) : OnlyD p M v a b.drew := ⟨h.os, h.tape, h.output, h.size, h.block⟩
theorem DkAt.cells {W : World} {p M n kept : Nat} {v : Value} {h : Hist} (H : DkAt W p M v n h kept) : W.cell? ⟨p, 0, none⟩ = some (.int .i64 (n : Int)) ∧ W.cell? ⟨p, 1, none⟩ = some (.map (some M)) ∧ W.cell? ⟨p, 2, none⟩ = some v :=
  ⟨blk_cell H.blk 0, blk_cell H.blk 1, blk_cell H.blk 2⟩
theorem map_nil {W : World} (m : Option Nat) : (binOp .eql 55 (.map m) (.map none)).run Tryd.prog W = .ok (.bool m.isNone) W := run_eql_map_nil_sl (P := Tryd.prog) W 55 _ _ m Tryd.underlying55
def chk (n : Nat) (i : Int) : Int := if 0 ≤ i ∧ i < n then 0 else 2
set_option maxHeartbeats 1000000 in
set_option maxRecDepth 100000 in
theorem check_calls {W : World} {p M n kept : Nat} {v : Value} {h : Hist} (H : DkAt W p M v n h kept) (i : Int) :
    Calls Tryd.prog 28 #[.pointer (some ⟨p, 0, none⟩), .int .i64 i] W fun e w' => e = .returned (.int .i64 (chk n i)) ∧ Below W.heap.size W w' := by
  obtain ⟨c0, c1, _⟩ := H.cells
  have hmn : ∀ V : World, (binOp .eql 55 (.map (some M)) (.map none)).run Tryd.prog V = .ok (.bool false) V := fun V => map_nil (W := V) (some M)
  clear H
  unfold chk
  by_cases h0 : i < 0
  · have hd := decide_eq_true h0
    rw [if_neg (by omega)]
    go_enter Tryd.func28, Tryd.ntmps28
    go_wp2
    go_ret
    exact ⟨rfl, Below.refl _ _⟩
  · have hd := decide_eq_false h0
    by_cases h1 : (n : Int) ≤ i
    · have hd2 := decide_eq_true h1
      rw [if_neg (by omega)]
      go_enter Tryd.func28, Tryd.ntmps28
      go_wp2
      go_ret
      exact ⟨rfl, Below.refl _ _⟩
    · have hd2 := decide_eq_false h1
      rw [if_pos (by omega)]
      go_enter Tryd.func28, Tryd.ntmps28
      go_wp2
      go_ret
      exact ⟨rfl, Below.refl _ _⟩
theorem new_no (n : Int) (h : n < 256 ∨ 131072 < n) (W : World) :
    Calls Tryd.prog 18 #[.int .i64 n] W fun e w' => e = .returned (.tuple #[.pointer none, .int .i64 2]) ∧ Below W.heap.size W w' := by
  by_cases h1 : n < 256
  · have hd := decide_eq_true h1
    go_enter Tryd.func18, Tryd.ntmps18
    go_wp2
    go_ret2
    exact ⟨rfl, Below.refl _ _⟩
  · have hd := decide_eq_false h1
    have hd2 : decide (131072 < n) = true := decide_eq_true (by omega)
    go_enter Tryd.func18, Tryd.ntmps18
    go_wp2
    go_ret2
    exact ⟨rfl, Below.refl _ _⟩
set_option maxHeartbeats 1000000 in
set_option maxRecDepth 100000 in
theorem new_calls (n : Nat) (hn : 256 ≤ n ∧ n ≤ 131072) (W : World) :
    Calls Tryd.prog 18 #[.int .i64 (n : Int)] W fun e w' => e = .returned (.tuple #[.pointer (some ⟨W.heap.size + 1, 0, none⟩), .int .i64 0]) ∧ DkAt w' (W.heap.size + 1) W.heap.size (.slice none 0 0) n [] 0 ∧ Below W.heap.size W w' := by
  have HN := Lib.hid hn
  have d1 : decide ((n : Int) < 256) = false := decide_eq_false (by omega)
  have d2 : decide (131072 < (n : Int)) = false := decide_eq_false (by omega)
  have d1n : decide (n < 256) = false := decide_eq_false (by omega)
  have d2n : decide (131072 < n) = false := decide_eq_false (by omega)
  have hmm := @run_makeMap Tryd.prog
  clear hn
  go_enter Tryd.func18, Tryd.ntmps18
  go_wp2
  go_ret2
  have hsz : (W.alloc (.map #[] 0)).heap.size = W.heap.size + 1 := by simp
  refine ⟨by rfl, ⟨?_, ⟨.map [], ((World.ownsMap_made W _ _ _).mono (Nat.zero_le _)).alloc _, MapIs.made n⟩, Kd.R_nil _ _ _ _ _, Nat.zero_le _, Good.nil n, HN.out⟩, ?_⟩
  · have := blk_new (W.alloc (.map #[] 0)) (.cells #[.int .i64 (n : Int), .map (some W.heap.size), .slice none 0 0] 58)
    rw [hsz] at this
    exact this
  · exact below_alloc (below_alloc (Below.refl _ _) _) _
end Go.Proofs.YteooldbdilkmeaaDoor.SC

namespace Go.Proofs.YteooldbdilkmeaaDoor.SC
open Go.RowKit Go.Maps Go.Proofs.YteooldbdilkmeaaDoorW.PrintWords Go.Proofs.YteooldbdilkmeaaDoorW.PrintLast Go.Proofs.YteooldbdilkmeaaDoorW.PrintMore
set_option linter.unusedVariables false
set_option linter.unusedSimpArgs false
theorem rep_one : ∀ n : Nat, Lib.repeatL [(0 : UInt8)] n = List.replicate n 0
  | 0 => rfl
  | n + 1 => by rw [Lib.repeatL, rep_one n]; rfl
theorem rep_zeros (n : Nat) : (⟨(Lib.repeatL (⟨#[0]⟩ : ByteArray).data.toList n).toArray⟩ : ByteArray) = zeros n := ext' (rep_one n)
set_option maxHeartbeats 1000000 in
set_option maxRecDepth 100000 in
theorem full_calls (s : ByteArray) (hs : s.size ≤ 512) (W : World) : Calls Tryd.prog 29 #[.string s] W fun e w' => e = .returned (.string (full s)) ∧ Below W.heap.size W w' := by
  obtain ⟨m, hm⟩ : ∃ m, 512 - s.size = m := ⟨_, rfl⟩
  have hw : wrap64 (512 - (s.size : Int)) = (m : Int) := by unfold wrap64; omega
  have HR := Lib.hid (Tryd.strings_Repeat ⟨#[0]⟩ m W (by omega) (by have : (⟨#[0]⟩ : ByteArray).size = 1 := rfl; rw [this]; omega))
  rw [rep_zeros, show (m : Int) = 512 - (s.size : Int) by omega] at HR
  have hz : (zeros m).size = m := by rw [size_toL, zeros_toL, List.length_replicate]
  have HF : Hid (s ++ zeros m = full s) := Lib.hid (by unfold full; rw [hm])
  obtain ⟨z, hzz⟩ : ∃ z, zeros m = z := ⟨_, rfl⟩
  rw [hzz] at HR hz HF
  have hbd : ¬ (9223372036854775807 < s.size + z.size) := by omega
  clear hz hzz hs hm
  go_enter Tryd.func29, Tryd.ntmps29
  go_wp2_with fail
  refine HR.out.mono ?_; rintro e w1 ⟨rfl, hb1⟩
  have HB1 := Lib.hid hb1
  clear hb1
  go_wp2
  go_ret
  exact ⟨by rw [HF.out]; rfl, HB1.out⟩
theorem zero_held (W : World) : (zeroValue 62).run Tryd.prog W = .ok (heldV E0) W := by kernel_rfl
theorem wf_i64 {i : Nat} (h : i ≤ 9223372036854775807) : (Lit.int .i64 (i : Int)).wf = true := WalkArith.wf_i64 (by omega)
theorem keyOf_ix {i : Nat} (h : i ≤ 9223372036854775807) : keyOf Tryd.prog 3 (.int .i64 (i : Int)) = some (kx i) := keyOf_int_mk Tryd.underlying3 (wf_i64 h)
theorem look_have {W : World} {M n : Nat} {D : DataW Unit} {f : Nat → ByteArray} (ho : W.ownsMap Tryd.prog 3 heldE M n D) (hm : MapIs D n f) (i : Nat) (hi : i ≤ 9223372036854775807) :
    (Instr.lookup 55 (.map (some M)) (.int .i64 (i : Int)) false).run Tryd.prog W = .ok (.agg #[.string (f i)]) W := by
  obtain ⟨v, ps, hr, hv⟩ := ho.lookup (z := heldV E0) (zd := heldD E0) (zp := []) (kl := kx i) (int_keyed Tryd.underlying3) Tryd.underlying55 (zero_held W) (heldE_mk E0) (keyOf_ix hi)
  rw [hm.at_ i] at hv
  obtain ⟨s, rfl, e⟩ := heldE_inv hv
  have e3 := heldD_inj (congrArg Prod.fst e)
  exact hr.trans (congrArg (fun x => Result.ok (heldV x) W) e3.symm)
theorem field_held (s : ByteArray) (V : World) : (Instr.field 62 (.agg #[.string s]) 0).run Tryd.prog V = .ok (.string s) V := by kernel_rfl
theorem DkAt.look {W : World} {p M n kept : Nat} {v : Value} {h : Hist} (H : DkAt W p M v n h kept) (i : Nat) (hi : i < n) :
    (Instr.lookup 55 (.map (some M)) (.int .i64 (i : Int)) false).run Tryd.prog W = .ok (.agg #[.string (cont h i)]) W := by
  obtain ⟨D, ho, hm⟩ := H.map
  exact look_have ho hm i (by have := H.nn; omega)
set_option maxHeartbeats 1000000 in
set_option maxRecDepth 100000 in
theorem read_calls {W : World} {p M n kept : Nat} {v : Value} {h : Hist} (H : DkAt W p M v n h kept) (i : Nat) (hi : i < n) :
    Calls Tryd.prog 10 #[.pointer (some ⟨p, 0, none⟩), .int .i64 (i : Int)] W fun e w' => e = .returned (.tuple #[.string (full (cont h i)), .int .i64 0]) ∧ Below W.heap.size W w' := by
  have HD := Lib.hid H
  have HC := Lib.hid (check_calls H (i : Int))
  rw [show chk n (i : Int) = 0 from if_pos (by omega)] at HC
  have HS := Lib.hid (fun V => full_calls (cont h i) (cont_slim h H.good i).1 V)
  have Hi := Lib.hid hi
  clear H hi
  go_enter Tryd.func10, Tryd.ntmps10
  go_wp2_with fail
  refine HC.out.mono ?_; rintro e w1 ⟨rfl, hb1⟩
  have HD1 := Lib.hid (HD.out.below hb1 (Nat.le_refl _))
  have HB1 := Lib.hid hb1
  obtain ⟨c0, c1, c2⟩ := HD1.out.cells
  have hlk := HD1.out.look i Hi.out
  have hfd := field_held
  obtain ⟨s, hs⟩ : ∃ s, cont h i = s := ⟨_, rfl⟩
  rw [hs] at hlk HS
  have Hs := Lib.hid hs
  clear hb1 hs
  go_wp2_with fail
  refine (HS.out _).mono ?_; rintro e w2 ⟨rfl, hb2⟩
  have HB2 := Lib.hid (below_step HB1.out hb2)
  clear hb2 c0 c1 c2 hlk
  go_wp2
  go_ret2
  exact ⟨by rw [Hs.out]; rfl, HB2.out⟩
set_option maxHeartbeats 1000000 in
set_option maxRecDepth 100000 in
theorem read_no {W : World} {p M n kept : Nat} {v : Value} {h : Hist} (H : DkAt W p M v n h kept) (i : Int) (hi : ¬ (0 ≤ i ∧ i < n)) :
    Calls Tryd.prog 10 #[.pointer (some ⟨p, 0, none⟩), .int .i64 i] W fun e w' => e = .returned (.tuple #[.string E0, .int .i64 2]) ∧ Below W.heap.size W w' := by
  have HC := Lib.hid (check_calls H i)
  rw [show chk n i = 2 from if_neg hi] at HC
  clear H hi
  go_enter Tryd.func10, Tryd.ntmps10
  go_wp2_with fail
  refine HC.out.mono ?_; rintro e w1 ⟨rfl, hb1⟩
  go_wp2
  go_ret2
  exact ⟨rfl, hb1⟩
theorem DkAt.log_slice {W : World} {p M n kept : Nat} {v : Value} {h : Hist} (H : DkAt W p M v n h kept) : ∃ A c, v = .slice A (h.length - kept) c := by
  obtain ⟨A, c, e⟩ := Kd.R_slice H.row
  rw [logOf_length] at e
  exact ⟨A, c, e⟩
set_option maxHeartbeats 1000000 in
set_option maxRecDepth 100000 in
theorem mark_calls {W : World} {p M n kept : Nat} {v : Value} {h : Hist} (H : DkAt W p M v n h kept) :
    Calls Tryd.prog 21 #[.pointer (some ⟨p, 0, none⟩)] W fun e w' => e = .returned (.tuple #[]) ∧ DkAt w' p M (.slice none 0 0) n h h.length ∧ OnlyD p M v W w' := by
  have HD := Lib.hid H
  obtain ⟨c0, c1, c2⟩ := H.cells
  have b0 := blk_frozen H.blk
  have HK := Lib.hid (blk_put H.blk 2 (.slice none 0 0) (cs' := #[.int .i64 (n : Int), .map (some M), .slice none 0 0]) rfl)
  have HO : Hid (OnlyD p M v W (W.setCell ⟨p, 2, none⟩ (.slice none 0 0))) := Lib.hid (OnlyD.grown (r := some p) ⟨rfl, rfl, rfl, by simp [World.setCell], fun k hk hne => Below.heap_setCell W _ _ k (fun e => hne (by rw [show k = p from e]))⟩ (fun k hk => .inl (by injection hk with hk; exact hk.symm)))
  have HM : Hid ((W.setCell ⟨p, 2, none⟩ (.slice none 0 0)).heap[M]? = W.heap[M]?) := Lib.hid (Below.heap_setCell W _ _ M (fun e => by
    have e : M = p := e
    obtain ⟨es, ck, hM⟩ := H.map_blk
    have := H.blk
    rw [e, this] at hM; cases hM))
  clear H
  go_enter Tryd.func21, Tryd.ntmps21
  go_wp2
  go_end0
  obtain ⟨D, ho, hd⟩ := HD.out.map
  refine ⟨rfl, ⟨HK.out, ⟨D, ownsMap_move ho HM.out, hd⟩, ?_, Nat.le_refl _, HD.out.good, HD.out.nn⟩, HO.out⟩
  rw [logOf_none]
  exact Kd.R_nil _ _ _ _ _
end Go.Proofs.YteooldbdilkmeaaDoor.SC

namespace Go.Proofs.YteooldbdilkmeaaDoor.SC
open Go.RowKit Go.Maps Go.Proofs.YteooldbdilkmeaaDoorW.PrintWords Go.Proofs.YteooldbdilkmeaaDoorW.PrintLast Go.Proofs.YteooldbdilkmeaaDoorW.PrintMore
set_option linter.unusedVariables false
set_option linter.unusedSimpArgs false
theorem str_empty (s : ByteArray) : s.toList.isEmpty = decide (s = E0) := by
  rw [ByteArray.toList_eq]
  by_cases e : s = E0
  · rw [decide_eq_true e, e]; rfl
  · rw [decide_eq_false e, List.isEmpty_eq_false_iff]
    exact fun h => e (ext' h)
set_option maxHeartbeats 1000000 in
set_option maxRecDepth 100000 in
theorem put_calls {W : World} {p M n : Nat} {v : Value} {D : DataW Unit} {f : Nat → ByteArray} (hb : W.heap[p]? = some (.cells #[.int .i64 (n : Int), .map (some M), v] 58 (0, 0))) (ho : W.ownsMap Tryd.prog 3 heldE M n D) (hm : MapIs D n f) (hn : n ≤ 131072) (i : Nat) (hi : i < n) (s : ByteArray) :
    Calls Tryd.prog 32 #[.pointer (some ⟨p, 0, none⟩), .int .i64 (i : Int), .string s] W fun e w' => e = .returned (.tuple #[]) ∧ (∃ D', w'.ownsMap Tryd.prog 3 heldE M n D' ∧ MapIs D' n (upd f i s)) ∧ W.grownBy w' (some M) := by
  have c1 : W.cell? ⟨p, 1, none⟩ = some (.map (some M)) := blk_cell hb 1
  have hse := str_empty s
  by_cases hs : s = E0
  · obtain ⟨w2, hrun, ho2, ht⟩ := ho.drop (int_keyed Tryd.underlying3) Tryd.underlying55 (keyOf_ix (i := i) (by omega)) 0
    have HE : Hid (∃ D', w2.ownsMap Tryd.prog 3 heldE M n D' ∧ MapIs D' n (upd f i s)) := Lib.hid ⟨_, ho2, by rw [hs]; exact hm.del i⟩
    have HG := Lib.hid ht.grown
    rw [decide_eq_true hs] at hse
    clear ho2 ht hs hb ho hm hi hn
    go_enter Tryd.func32, Tryd.ntmps32
    go_wp2
    (try simp only [Exit.inBlock, Exit.then]); refine bodyPost_ret (results_none rfl _ _ _) rfl ?_
    exact ⟨rfl, HE.out, HG.out⟩
  · obtain ⟨w2, hrun, ho2, hg⟩ := ho.update (val := .agg #[.string s]) (int_keyed Tryd.underlying3) Tryd.underlying55 (by unfold maxLen; omega) (keyOf_ix (i := i) (by omega)) (heldE_mk s)
    have HE : Hid (∃ D', w2.ownsMap Tryd.prog 3 heldE M n D' ∧ MapIs D' n (upd f i s)) := Lib.hid ⟨_, own_norm Tryd.underlying3 ho2 (hm.put hi hs), hm.put hi hs⟩
    have HG := Lib.hid hg
    rw [decide_eq_false hs] at hse
    clear ho2 hg hs hb ho hm hi hn
    go_enter Tryd.func32, Tryd.ntmps32
    go_wp2
    go_end0
    exact ⟨rfl, HE.out, HG.out⟩
end Go.Proofs.YteooldbdilkmeaaDoor.SC

namespace Go.Proofs.YteooldbdilkmeaaDoor.SC
open Go.RowKit Go.Maps Go.Proofs.YteooldbdilkmeaaDoorW.PrintWords Go.Proofs.YteooldbdilkmeaaDoorW.PrintLast Go.Proofs.YteooldbdilkmeaaDoorW.PrintMore
set_option linter.unusedVariables false
set_option linter.unusedSimpArgs false
theorem infoWr : (Tryd.prog.info? 65).map (fun i => (i.zero, i.size, i.bytes)) = some (some (.agg #[.int .i64 0, .string ByteArray.empty, .string ByteArray.empty]), 3, 40) := by kernel_rfl
theorem DkAt.alloc {W : World} {p M n kept : Nat} {v : Value} {h : Hist} (H : DkAt W p M v n h kept) (o : Obj) : DkAt (W.alloc o) p M v n h kept := H.below (below_alloc (Below.refl W.heap.size W) o) (Nat.le_refl _)
theorem grown_cells {w w9 : World} {p M n kept : Nat} {v : Value} {h : Hist} (H : DkAt w p M v n h kept) (hg : w.grownBy w9 v.ownBlock) :
    w9.heap[p]? = some (.cells #[.int .i64 (n : Int), .map (some M), v] 58 (0, 0)) ∧ (w9.heap[M]? = w.heap[M]?) ∧ ∃ D, w9.ownsMap Tryd.prog 3 heldE M n D ∧ MapIs D n (cont h) := by
  obtain ⟨es, ck, hM⟩ := H.map_blk
  have hpv : some p ≠ v.ownBlock := fun e => by
    obtain ⟨inner, ho⟩ := Kd.R_own H.row
    obtain ⟨c, hc⟩ := own_typed ho p e.symm
    rw [H.blk] at hc
    injection hc with hc
    injection hc with _ hc
    exact absurd hc (by decide)
  have hMv : some M ≠ v.ownBlock := fun e => by
    obtain ⟨inner, ho⟩ := Kd.R_own H.row
    obtain ⟨c, hc⟩ := own_typed ho M e.symm
    rw [hM] at hc; cases hc
  have hM9 := (hg.block M H.lt.2.1 hMv)
  obtain ⟨D, ho, hm⟩ := H.map
  exact ⟨(hg.block p H.lt.1 hpv).trans H.blk, hM9, D, ownsMap_move ho hM9, hm⟩
theorem after_append {w w9 : World} {p M n kept : Nat} {v v9 : Value} {h : Hist} {xs : List Wr} (H : DkAt w p M v n h kept) (hg : w.grownBy w9 v.ownBlock) (hr : kW.R 65 w9 0 (fun _ => True) v9 xs) :
    (w9.setCell ⟨p, 2, none⟩ v9).heap[p]? = some (.cells #[.int .i64 (n : Int), .map (some M), v9] 58 (0, 0)) ∧ (∃ D, (w9.setCell ⟨p, 2, none⟩ v9).ownsMap Tryd.prog 3 heldE M n D ∧ MapIs D n (cont h)) ∧ kW.R 65 (w9.setCell ⟨p, 2, none⟩ v9) 0 (fun _ => True) v9 xs ∧ OnlyD p M v w (w9.setCell ⟨p, 2, none⟩ v9) := by
  obtain ⟨es, ck, hM⟩ := H.map_blk
  have hpv : some p ≠ v.ownBlock := fun e => by
    obtain ⟨inner, ho⟩ := Kd.R_own H.row
    obtain ⟨c, hc⟩ := own_typed ho p e.symm
    rw [H.blk] at hc
    injection hc with hc
    injection hc with _ hc
    exact absurd hc (by decide)
  have hMv : some M ≠ v.ownBlock := fun e => by
    obtain ⟨inner, ho⟩ := Kd.R_own H.row
    obtain ⟨c, hc⟩ := own_typed ho M e.symm
    rw [hM] at hc; cases hc
  have hpM : M ≠ p := fun e => by have := H.blk; rw [← e, hM] at this; cases this
  have h9 := (hg.block p H.lt.1 hpv).trans H.blk
  have hM9 := (hg.block M H.lt.2.1 hMv)
  have hs : (w9.setCell ⟨p, 2, none⟩ v9).heap[M]? = w9.heap[M]? := Below.heap_setCell w9 _ _ M hpM
  obtain ⟨D, ho, hm⟩ := H.map
  refine ⟨blk_put h9 2 v9 rfl, ⟨D, ownsMap_move (ownsMap_move ho hM9) hs, hm⟩, kW_move hr fun k hk => Below.heap_setCell w9 _ _ k (fun e => ?_), ?_⟩
  · obtain ⟨inner, ho⟩ := Kd.R_own hr
    obtain ⟨c, hc⟩ := own_typed ho k hk
    rw [show k = p from e, h9] at hc
    injection hc with hc
    injection hc with _ hc
    exact absurd hc (by decide)
  · exact (OnlyD.grown hg (fun k hk => .inr (.inr (.inl hk.symm)))).trans (OnlyD.grown (r := some p) ⟨rfl, rfl, rfl, by simp [World.setCell], fun k hk hne => Below.heap_setCell w9 _ _ k (fun e => hne (by rw [show k = p from e]))⟩ (fun k hk => .inl (by injection hk with hk; exact hk.symm))) (Moved.refl _ _)
theorem trimr_calls (s : ByteArray) (hs : s.size ≤ 9223372036854775807) (W : World) : Calls Tryd.prog 31 #[.string s, .string ⟨#[0]⟩] W fun e w' => e = .returned (.string (trim s)) ∧ Below W.heap.size W w' :=
  (Tryd.strings_TrimRight_one s 0 (by decide) W hs).mono fun e w' ⟨h1, h2⟩ => ⟨h1, by rw [h2]; exact Below.refl _ _⟩
set_option maxRecDepth 100000 in
theorem clone_calls (s : ByteArray) (hs : s.size ≤ 281474976710656) (W : World) : Calls Tryd.prog 30 #[.string s] W fun e w' => e = .returned (.string s) ∧ Below W.heap.size W w' := by
  have HC := Lib.hid (Tryd.stringslite_Clone s W hs)
  clear hs
  go_enter Tryd.func30, Tryd.ntmps30
  go_wp2_with fail
  refine HC.out.mono ?_; rintro e w1 ⟨rfl, hb1⟩
  have HB := Lib.hid hb1
  clear hb1
  go_wp2
  go_ret
  exact ⟨rfl, HB.out⟩
set_option maxHeartbeats 1000000 in
set_option maxRecDepth 100000 in
theorem write_no {W : World} {p M n kept : Nat} {v : Value} {h : Hist} (H : DkAt W p M v n h kept) (i : Int) (hi : ¬ (0 ≤ i ∧ i < n)) (s : ByteArray) :
    Calls Tryd.prog 12 #[.pointer (some ⟨p, 0, none⟩), .int .i64 i, .string s] W fun e w' => e = .returned (.int .i64 2) ∧ Below W.heap.size W w' := by
  have HC := Lib.hid (check_calls H i)
  rw [show chk n i = 2 from if_neg hi] at HC
  clear H hi
  go_enter Tryd.func12, Tryd.ntmps12
  go_wp2_with fail
  refine HC.out.mono ?_; rintro e w1 ⟨rfl, hb1⟩
  go_wp2
  go_ret
  exact ⟨rfl, hb1⟩
set_option maxHeartbeats 1000000 in
set_option maxRecDepth 100000 in
theorem write_long {W : World} {p M n kept : Nat} {v : Value} {h : Hist} (H : DkAt W p M v n h kept) (i : Int) (hi : 0 ≤ i ∧ i < n) (s : ByteArray) (hs : 512 < s.size) :
    Calls Tryd.prog 12 #[.pointer (some ⟨p, 0, none⟩), .int .i64 i, .string s] W fun e w' => e = .returned (.int .i64 3) ∧ Below W.heap.size W w' := by
  have HC := Lib.hid (check_calls H i)
  rw [show chk n i = 0 from if_pos hi] at HC
  have hd : decide ((512 : Int) < (s.size : Int)) = true := decide_eq_true (by omega)
  have hdn : decide (512 < s.size) = true := decide_eq_true hs
  clear H hi hs
  go_enter Tryd.func12, Tryd.ntmps12
  go_wp2_with fail
  refine HC.out.mono ?_; rintro e w1 ⟨rfl, hb1⟩
  have HB := Lib.hid hb1
  clear hb1
  go_wp2
  go_ret
  exact ⟨rfl, HB.out⟩
set_option maxHeartbeats 2000000 in
set_option maxRecDepth 100000 in
theorem write_calls {W : World} {p M n kept : Nat} {v : Value} {h : Hist} (H : DkAt W p M v n h kept) (i : Nat) (hi : i < n) (s : ByteArray) (hs : s.size ≤ 512) (hl : h.length ≤ 1000000) :
    Calls Tryd.prog 12 #[.pointer (some ⟨p, 0, none⟩), .int .i64 (i : Int), .string s] W fun e w' => e = .returned (.int .i64 0) ∧ (∃ v', DkAt w' p M v' n (h ++ [(i, trim s)]) kept ∧ Moved W v v') ∧ OnlyD p M v W w' := by
  have HD := Lib.hid H
  have HC := Lib.hid (check_calls H (i : Int))
  rw [show chk n (i : Int) = 0 from if_pos (by omega)] at HC
  have HT := Lib.hid (fun V => trimr_calls s (by omega) V)
  have HCl := Lib.hid (fun V => clone_calls (trim s) (by have := trim_size s; omega) V)
  have HSl := Lib.hid (trim_slim s hs)
  have hd : decide ((512 : Int) < (s.size : Int)) = false := decide_eq_false (by omega)
  have hdn : decide (512 < s.size) = false := decide_eq_false (by omega)
  have Hi := Lib.hid hi
  have Hl := Lib.hid hl
  obtain ⟨t, ht⟩ : ∃ t, trim s = t := ⟨_, rfl⟩
  rw [ht] at HT HCl HSl
  have Ht := Lib.hid ht
  clear H hi hs ht hl
  go_enter Tryd.func12, Tryd.ntmps12
  go_wp2_with fail
  refine HC.out.mono ?_; rintro e w1 ⟨rfl, hb1⟩
  have HD1 := Lib.hid (HD.out.below hb1 (Nat.le_refl _))
  have HB1 := Lib.hid hb1
  clear hb1
  go_wp2_with fail
  refine (HT.out _).mono ?_; rintro e w2 ⟨rfl, hb2⟩
  have HD2 := Lib.hid (HD1.out.below hb2 (Nat.le_refl _))
  have HB2 := Lib.hid (below_step HB1.out hb2)
  clear hb2
  go_wp2_with fail
  refine (HCl.out _).mono ?_; rintro e w3 ⟨rfl, hb3⟩
  have HD3 := Lib.hid (HD2.out.below hb3 (Nat.le_refl _))
  have HB3 := Lib.hid (below_step HB2.out hb3)
  obtain ⟨c0, c1, c2⟩ := HD3.out.cells
  have hlk := HD3.out.look i Hi.out
  have hfd := field_held
  have b0 := blk_frozen HD3.out.blk
  clear hb3 hd hdn
  have HCs : Hid (∀ (w9 : World) (v9 : Value), w3.drew.grownBy w9 v.ownBlock → kW.R 65 w9 0 (fun _ => True) v9 (logOf h kept ++ [((i : Int), t, cont h i)]) → (w9.cell? ⟨p, 1, none⟩ = some (.map (some M)) ∧ w9.cell? ⟨p, 2, none⟩ = some v) ∧ w9.frozen? ⟨p, 2, none⟩ = false ∧ (Instr.lookup 55 (.map (some M)) (.int .i64 (i : Int)) false).run Tryd.prog w9 = .ok (.agg #[.string (cont h i)]) w9) := Lib.hid (fun w9 v9 hg hr => by
    obtain ⟨h1, h2, h3⟩ := grown_cells HD3.out.drew hg
    obtain ⟨D, ho, hm⟩ := h3
    exact ⟨⟨blk_cell h1 1, blk_cell h1 2⟩, blk_frozen h1 2, look_have ho hm i (by have := Hi.out; have := HD3.out.nn; omega)⟩)
  obtain ⟨lg, hlg⟩ : ∃ x, logOf h kept ++ [((i : Int), t, cont h i)] = x := ⟨_, rfl⟩
  have Hlg := Lib.hid hlg
  rw [hlg] at HCs
  clear hlg
  go_upto_region 7 with fail
  refine start_ (n := 21) (S := fun w' => w'.cell? ⟨p, 1, none⟩ = some (.map (some M)) ∧ w'.cell? ⟨p, 2, none⟩ = some v ∧ (Instr.lookup 55 (.map (some M)) (.int .i64 (i : Int)) false).run Tryd.prog w' = .ok (.agg #[.string (cont h i)]) w') (ds := [20]) #[false, false, false, false, false, false, false, false, false, false, false, false, false, false, false, false, false, false, false, false, false] (by kernel_rfl) rfl rfl ⟨HD3.out.drew.cells.2.1, HD3.out.drew.cells.2.2, HD3.out.drew.look i Hi.out⟩ (fun hHeld => ?_)
  refine pure_ (i := 0) (N := some 21) (v := ?_) (a' := ?_) #[true, false, false, false, false, false, false, false, false, false, false, false, false, false, false, false, false, false, false, false, false] rfl rfl (by kernel_rfl) (fun _ _ _ h => h) (Or.inl ⟨by rfl, ?_⟩) ?_ ?_
  rotate_left
  · intro w'
    go_simp
    with_reducible rfl
  rotate_left
  · simp only [Act.put, List.setIfInBounds_toArray, List.set_cons_zero, List.set_cons_succ, i64_w, i32_w]
    rfl
  refine pure_ (i := 1) (N := some 22) (v := ?_) (a' := ?_) #[true, true, false, false, false, false, false, false, false, false, false, false, false, false, false, false, false, false, false, false, false] rfl rfl (by kernel_rfl) (fun _ _ _ h => h) (Or.inl ⟨by rfl, ?_⟩) ?_ ?_
  rotate_left
  · intro w'
    go_simp
    with_reducible rfl
  rotate_left
  · simp only [Act.put, List.setIfInBounds_toArray, List.set_cons_zero, List.set_cons_succ, i64_w, i32_w]
    rfl
  refine pure_ (i := 2) (N := some 23) (v := ?_) (a' := ?_) #[true, true, true, false, false, false, false, false, false, false, false, false, false, false, false, false, false, false, false, false, false] rfl rfl (by kernel_rfl) (fun _ _ _ h => h) (Or.inl ⟨by rfl, ?_⟩) ?_ ?_
  rotate_left
  · intro w'
    go_simp
    with_reducible rfl
  rotate_left
  · simp only [Act.put, List.setIfInBounds_toArray, List.set_cons_zero, List.set_cons_succ, i64_w, i32_w]
    rfl
  refine pure_ (i := 3) (N := some 24) (v := ?_) (a' := ?_) #[true, true, true, true, false, false, false, false, false, false, false, false, false, false, false, false, false, false, false, false, false] rfl rfl (by kernel_rfl) (fun _ _ _ h => h) (Or.inl ⟨by rfl, ?_⟩) ?_ ?_
  rotate_left
  · intro w'
    go_simp
    with_reducible rfl
  rotate_left
  · simp only [Act.put, List.setIfInBounds_toArray, List.set_cons_zero, List.set_cons_succ, i64_w, i32_w]
    rfl
  refine pure_ (i := 5) (N := some 26) (v := ?_) (a' := ?_) #[true, true, true, true, false, true, false, false, false, false, false, false, false, false, false, false, false, false, false, false, false] rfl rfl (by kernel_rfl) (fun _ _ _ h => h) (Or.inl ⟨by rfl, ?_⟩) ?_ ?_
  rotate_left
  · intro w'
    go_simp
    with_reducible rfl
  rotate_left
  · simp only [Act.put, List.setIfInBounds_toArray, List.set_cons_zero, List.set_cons_succ, i64_w, i32_w]
    rfl
  refine pure_ (i := 6) (N := some 27) (v := ?_) (a' := ?_) #[true, true, true, true, false, true, true, false, false, false, false, false, false, false, false, false, false, false, false, false, false] rfl rfl (by kernel_rfl) (fun _ _ _ h => h) (Or.inl ⟨by rfl, ?_⟩) ?_ ?_
  rotate_left
  · intro w'
    go_simp
    with_reducible rfl
  rotate_left
  · simp only [Act.put, List.setIfInBounds_toArray, List.set_cons_zero, List.set_cons_succ, i64_w, i32_w]
    rfl
  refine pure_ (i := 7) (N := some 28) (v := ?_) (a' := ?_) #[true, true, true, true, false, true, true, true, false, false, false, false, false, false, false, false, false, false, false, false, false] rfl rfl (by kernel_rfl) (fun _ _ _ h => h) (Or.inl ⟨by rfl, ?_⟩) ?_ ?_
  rotate_left
  · intro w'
    go_simp
    with_reducible rfl
  rotate_left
  · simp only [Act.put, List.setIfInBounds_toArray, List.set_cons_zero, List.set_cons_succ, i64_w, i32_w]
    rfl
  refine pure_ (i := 8) (N := some 29) (v := ?_) (a' := ?_) #[true, true, true, true, false, true, true, true, true, false, false, false, false, false, false, false, false, false, false, false, false] rfl rfl (by kernel_rfl) (fun _ _ _ h => h) (Or.inl ⟨by rfl, ?_⟩) ?_ ?_
  rotate_left
  · intro w'
    go_simp
    with_reducible rfl
  rotate_left
  · simp only [Act.put, List.setIfInBounds_toArray, List.set_cons_zero, List.set_cons_succ, i64_w, i32_w]
    rfl
  refine pure_ (i := 9) (N := some 30) (v := ?_) (a' := ?_) #[true, true, true, true, false, true, true, true, true, true, false, false, false, false, false, false, false, false, false, false, false] rfl rfl (by kernel_rfl) (fun _ _ _ h => h) (Or.inl ⟨by rfl, ?_⟩) ?_ ?_
  rotate_left
  · intro w'
    go_simp
    with_reducible rfl
  rotate_left
  · simp only [Act.put, List.setIfInBounds_toArray, List.set_cons_zero, List.set_cons_succ, i64_w, i32_w]
    rfl
  refine pure_ (i := 10) (N := some 31) (v := ?_) (a' := ?_) #[true, true, true, true, false, true, true, true, true, true, true, false, false, false, false, false, false, false, false, false, false] rfl rfl (by kernel_rfl) (fun _ _ _ h => h) (Or.inl ⟨by rfl, ?_⟩) ?_ ?_
  rotate_left
  · intro w'
    go_simp
    with_reducible rfl
  rotate_left
  · simp only [Act.put, List.setIfInBounds_toArray, List.set_cons_zero, List.set_cons_succ, i64_w, i32_w]
    rfl
  refine pure_ (i := 12) (N := some 33) (v := ?_) (a' := ?_) #[true, true, true, true, false, true, true, true, true, true, true, false, true, false, false, false, false, false, false, false, false] rfl rfl (by kernel_rfl) (fun _ _ _ h => h) (Or.inl ⟨by rfl, ?_⟩) ?_ ?_
  rotate_left
  · intro w'
    go_simp
    with_reducible rfl
  rotate_left
  · simp only [Act.put, List.setIfInBounds_toArray, List.set_cons_zero, List.set_cons_succ, i64_w, i32_w]
    rfl
  refine take_ (i := 4) (N := some 25) (v := ?_) (a' := ?_) #[true, true, true, true, true, true, true, true, true, true, true, false, true, false, false, false, false, false, false, false, false] rfl rfl (by kernel_rfl) (fun _ _ _ h => h) (Or.inl ⟨by rfl, ?_⟩) hHeld ?_ ?_
  rotate_left
  · rintro w' ⟨s0, s1, s2⟩
    go_simp
    with_reducible rfl
  rotate_left
  · simp only [Act.put, List.setIfInBounds_toArray, List.set_cons_zero, List.set_cons_succ, i64_w, i32_w]
    rfl
  refine take_ (i := 11) (N := some 32) (v := ?_) (a' := ?_) #[true, true, true, true, true, true, true, true, true, true, true, true, true, false, false, false, false, false, false, false, false] rfl rfl (by kernel_rfl) (fun _ _ _ h => h) (Or.inl ⟨by rfl, ?_⟩) hHeld ?_ ?_
  rotate_left
  · rintro w' ⟨s0, s1, s2⟩
    go_simp
    with_reducible rfl
  rotate_left
  · simp only [Act.put, List.setIfInBounds_toArray, List.set_cons_zero, List.set_cons_succ, i64_w, i32_w]
    rfl
  refine take_ (i := 13) (N := some 34) (v := ?_) (a' := ?_) #[true, true, true, true, true, true, true, true, true, true, true, true, true, true, false, false, false, false, false, false, false] rfl rfl (by kernel_rfl) (fun _ _ _ h => h) (Or.inl ⟨by rfl, ?_⟩) hHeld ?_ ?_
  rotate_left
  · rintro w' ⟨s0, s1, s2⟩
    go_simp
    with_reducible rfl
  rotate_left
  · simp only [Act.put, List.setIfInBounds_toArray, List.set_cons_zero, List.set_cons_succ, i64_w, i32_w]
    rfl
  refine pure_ (i := 14) (N := some 35) (v := ?_) (a' := ?_) #[true, true, true, true, true, true, true, true, true, true, true, true, true, true, true, false, false, false, false, false, false] rfl rfl (by kernel_rfl) (fun _ _ _ h => h) (Or.inl ⟨by rfl, ?_⟩) ?_ ?_
  rotate_left
  · intro w'
    go_simp
    with_reducible rfl
  rotate_left
  · simp only [Act.put, List.setIfInBounds_toArray, List.set_cons_zero, List.set_cons_succ, i64_w, i32_w]
    rfl
  refine pure_ (i := 15) (N := some 36) (v := ?_) (a' := ?_) #[true, true, true, true, true, true, true, true, true, true, true, true, true, true, true, true, false, false, false, false, false] rfl rfl (by kernel_rfl) (fun _ _ _ h => h) (Or.inl ⟨by rfl, ?_⟩) ?_ ?_
  rotate_left
  · intro w'
    go_simp
    with_reducible rfl
  rotate_left
  · simp only [Act.put, List.setIfInBounds_toArray, List.set_cons_zero, List.set_cons_succ, i64_w, i32_w]
    rfl
  refine one_ (i := 16) (N := some 37) #[true, true, true, true, true, true, true, true, true, true, true, true, true, true, true, true, true, false, false, false, false] rfl rfl (by kernel_rfl) (by decide) (fun K hK => ?_)
  refine value_ (w1 := ?_) (v := ?_) (by rfl) rfl ?_ ?_
  rotate_left 2
  · go_simp
    constructor
    · rfl
    · rfl
  refine hK.out _ _ ⟨(HD3.out.drew.alloc _).cells.2.1, (HD3.out.drew.alloc _).cells.2.2, (HD3.out.drew.alloc _).look i Hi.out⟩ (fun hHeld => ?_)
  clear hK K
  refine norm_ (a' := ?_) ?_ ?_
  rotate_left
  · show Act.put _ (some 37) _ = _
    simp only [Act.put, List.setIfInBounds_toArray, List.set_cons_zero, List.set_cons_succ, i64_w, i32_w]
    rfl
  refine one_ (i := 17) (N := some 38) #[true, true, true, true, true, true, true, true, true, true, true, true, true, true, true, true, true, true, false, false, false] rfl rfl (by kernel_rfl) (by decide) (fun K hK => ?_)
  refine Kd.R_append_step kW (w0 := w3.drew) 0 (by rfl) (.tmp 25) (.tmp 37) 56 65 (.agg #[.int .i64 0, .string ByteArray.empty, .string ByteArray.empty]) 40 rfl Tryd.underlying56 infoWr (by rfl) (by decide) (by decide) v (logOf h kept) ((i : Int), t, cont h i) (wCells ((i : Int), t, cont h i)) (fun _ => True) (fun _ => False) (by rfl) (by rfl) (kW_mk _ _ _ _) (fun _ h => h.elim) (fun _ _ => trivial) HD3.out.drew.row (Below.refl _ _) (Nat.zero_le _) (by rw [logOf_length]; have := Hl.out; omega) ?_
  intro v9 w9 hr9 hb9 hg9 hat9
  rw [Hlg.out] at hr9
  have t9 := (HCs.out w9 v9 hg9 hr9).1
  have f9 := (HCs.out w9 v9 hg9 hr9).2.1
  have l9 := (HCs.out w9 v9 hg9 hr9).2.2
  obtain ⟨A9, c9, rfl⟩ := Kd.R_slice hr9
  refine hK.out _ _ ⟨t9.1, t9.2, l9⟩ (fun hHeld => ?_)
  clear hK K
  refine norm_ (a' := ?_) ?_ ?_
  rotate_left
  · show Act.put _ (some 38) _ = _
    simp only [Act.put, List.setIfInBounds_toArray, List.set_cons_zero, List.set_cons_succ, i64_w, i32_w]
    rfl
  refine pure_ (i := 18) (N := some 39) (v := ?_) (a' := ?_) #[true, true, true, true, true, true, true, true, true, true, true, true, true, true, true, true, true, true, true, false, false] rfl rfl (by kernel_rfl) (fun _ _ _ h => h) (Or.inl ⟨by rfl, ?_⟩) ?_ ?_
  rotate_left
  · intro w'
    go_simp
    with_reducible rfl
  rotate_left
  · simp only [Act.put, List.setIfInBounds_toArray, List.set_cons_zero, List.set_cons_succ, i64_w, i32_w]
    rfl
  refine pure_ (i := 19) (N := some 40) (v := ?_) (a' := ?_) #[true, true, true, true, true, true, true, true, true, true, true, true, true, true, true, true, true, true, true, true, false] rfl rfl (by kernel_rfl) (fun _ _ _ h => h) (Or.inl ⟨by rfl, ?_⟩) ?_ ?_
  rotate_left
  · intro w'
    go_simp
    with_reducible rfl
  rotate_left
  · simp only [Act.put, List.setIfInBounds_toArray, List.set_cons_zero, List.set_cons_succ, i64_w, i32_w]
    rfl
  refine last_ (i := 20) (N := none) #[true, true, true, true, true, true, true, true, true, true, true, true, true, true, true, true, true, true, true, true, true] rfl rfl (by kernel_rfl) (by decide) (fun K hK => ?_)
  refine skip_ (w1 := ?_) (by rfl) rfl ?_ ?_
  rotate_left
  · go_simp
    rfl
  refine hK.out _ _ ?_
  clear hK K
  refine done_ (by kernel_rfl) ?_
  clear hHeld hfd
  obtain ⟨v9, hv9⟩ : ∃ x, Value.slice A9 lg.length c9 = x := ⟨_, rfl⟩
  rw [hv9] at hr9 hat9
  rw [hv9]
  clear hv9
  obtain ⟨HK, HM9, HR9, HO⟩ := after_append HD3.out.drew hg9 hr9
  have HKh := Lib.hid HK
  have HRh := Lib.hid HR9
  have HOh : Hid (OnlyD p M v W (w9.setCell ⟨p, 2, none⟩ v9)) := Lib.hid ((OnlyD.of (below_drew HB3.out) (Nat.le_refl _)).trans HO (Moved.refl _ _))
  have HMv : Hid (Moved W v v9) := Lib.hid (by
    rcases hat9 with e | ⟨k, e, hk⟩
    · exact .inl e
    · exact .inr fun q hq => by rw [e] at hq; injection hq with hq; have := HB3.out.size; simp only [World.size_drew] at hk; omega)
  obtain ⟨D9, ho9, hm9⟩ := HM9
  have HKM : Hid (∃ es ck, (w9.setCell ⟨p, 2, none⟩ v9).heap[M]? = some (.map es ck)) := Lib.hid (by
    obtain ⟨es, ck, hb, _⟩ := ho9
    exact ⟨es, ck, hb⟩)
  have HP := Lib.hid (put_calls HK ho9 hm9 HD3.out.nn.2 i Hi.out t)
  have HRow : Hid (logOf (h ++ [(i, t)]) kept = lg) := Lib.hid (by rw [logOf_snoc h kept HD3.out.le i t, Hlg.out])
  obtain ⟨W9, hW9⟩ : ∃ V, w9.setCell ⟨p, 2, none⟩ v9 = V := ⟨_, rfl⟩
  rw [hW9] at HKh HRh HOh HP HKM
  have HD4 := Lib.hid HD3.out
  clear hr9 hb9 hg9 hat9 HK HR9 HO ho9 hm9 c0 c1 c2 hlk b0 t9 l9 f9
  rw [hW9]
  clear hW9
  go_wp2_with fail
  refine HP.out.mono ?_; rintro e w10 ⟨rfl, ⟨D10, ho10, hm10⟩, hg10⟩
  have HE : Hid (DkAt w10 p M v9 n (h ++ [(i, t)]) kept ∧ OnlyD p M v W w10) := Lib.hid (by
    have hpM : p ≠ M := fun e => by
      obtain ⟨es, ck, hM⟩ := HD4.out.map_blk
      have := HD4.out.blk
      rw [e, hM] at this; cases this
    have hMt : ∃ es ck, W9.heap[M]? = some (.map es ck) := HKM.out
    refine ⟨⟨(hg10.block p (blk_lt HKh.out) (fun e => hpM (by injection e))).trans HKh.out, ⟨D10, ho10, by rw [cont_snoc]; exact hm10⟩, ?_, by rw [List.length_append]; have := HD4.out.le; omega, HD4.out.good.snoc Hi.out HSl.out, HD4.out.nn⟩, ?_⟩
    · rw [HRow.out]
      refine kW_move HRh.out fun k hk => hg10.block k (Kd.R_lt HRh.out k hk) (fun e => ?_)
      obtain ⟨inner, ho⟩ := Kd.R_own HRh.out
      obtain ⟨c, hc⟩ := own_typed ho k hk
      obtain ⟨es, ck, hM⟩ := hMt
      rw [show k = M by injection e, hM] at hc; cases hc
    · exact HOh.out.trans (OnlyD.grown (v := v) hg10 (fun k hk => .inr (.inl (by injection hk with hk; exact hk.symm)))) (Moved.refl _ _))
  clear ho10 hm10 hg10
  go_wp2
  go_ret
  rw [Ht.out]
  exact ⟨rfl, ⟨v9, HE.out.1, HMv.out⟩, HE.out.2⟩
end Go.Proofs.YteooldbdilkmeaaDoor.SC

namespace Go.Proofs.YteooldbdilkmeaaDoor.SC
open Go.RowKit Go.Maps Go.Proofs.YteooldbdilkmeaaDoorW.PrintWords Go.Proofs.YteooldbdilkmeaaDoorW.PrintLast Go.Proofs.YteooldbdilkmeaaDoorW.PrintMore
set_option linter.unusedVariables false
set_option linter.unusedSimpArgs false
theorem infoWa : (Tryd.prog.info? 31).map (fun i => (i.zero, i.size, i.bytes)) = some (some (.agg #[.int .i64 0, .string ByteArray.empty]), 2, 24) := by kernel_rfl
def logA (h : Hist) : List Wa := h.map fun p => ((p.1 : Int), full p.2)
theorem logA_length (h : Hist) : (logA h).length = h.length := by simp [logA]
theorem logA_take (h : Hist) (kept j : Nat) (hj : kept + j < h.length) : logA ((h.drop kept).take (j + 1)) = logA ((h.drop kept).take j) ++ [(((h.getD (kept + j) (0, E0)).1 : Int), full (h.getD (kept + j) (0, E0)).2)] := by
  unfold logA
  rw [List.take_add_one, List.getElem?_drop, List.getElem?_eq_getElem hj, List.map_append, List.getD_eq_getElem?_getD, List.getElem?_eq_getElem hj]
  rfl
theorem add_mid3 (g j q : Nat) : (⟨g, 0, none⟩ : Addr).add (j * kW.sz + q) = ⟨g, j * 3 + q, none⟩ := by
  rw [Addr.add_mid, Nat.zero_add]
  rfl
theorem dk_row_ne {W : World} {p M n kept base : Nat} {v u : Value} {h : Hist} {xs : List Wa} {ok : Nat → Prop} (H : DkAt W p M v n h kept) (hr : kA.R 31 W base ok u xs) : some p ≠ u.ownBlock ∧ some M ≠ u.ownBlock ∧ ∀ k, v.ownBlock = some k → some k ≠ u.ownBlock := by
  obtain ⟨inner, ho⟩ := Kd.R_own hr
  refine ⟨fun e => ?_, fun e => ?_, fun k hk e => ?_⟩
  · obtain ⟨c, hc⟩ := own_typed ho p e.symm
    rw [H.blk] at hc
    injection hc with hc
    injection hc with _ hc
    exact absurd hc (by decide)
  · obtain ⟨c, hc⟩ := own_typed ho M e.symm
    obtain ⟨es, ck, hM⟩ := H.map_blk
    rw [hM] at hc; cases hc
  · obtain ⟨c, hc⟩ := own_typed ho k e.symm
    obtain ⟨inner2, ho2⟩ := Kd.R_own H.row
    obtain ⟨c2, hc2⟩ := own_typed ho2 k hk
    rw [hc] at hc2
    injection hc2 with hc2
    injection hc2 with _ hc2
    exact absurd hc2 (by decide)
theorem DkAt.at_ {W : World} {p M n kept : Nat} {v : Value} {h : Hist} (H : DkAt W p M v n h kept) (j : Nat) (hj : kept + j < h.length) :
    ∃ g c, v = .slice (some ⟨g, 0, none⟩) (h.length - kept) c ∧ W.cell? ⟨g, j * 3, none⟩ = some (.int .i64 ((h.getD (kept + j) (0, E0)).1 : Int)) ∧ W.cell? ⟨g, j * 3 + 1, none⟩ = some (.string (h.getD (kept + j) (0, E0)).2) ∧ W.cell? ⟨g, j * 3 + 2, none⟩ = some (.string (cont (h.take (kept + j)) (h.getD (kept + j) (0, E0)).1)) := by
  have hl := logOf_length h kept
  obtain ⟨g, c, hv, _⟩ := Kd.R_form H.row (by omega)
  obtain ⟨A, c2, hv2, _, hC⟩ := Kd.R_reads H.row
  rw [hv] at hv2
  injection hv2 with hA
  subst hA
  obtain ⟨ad, cs, had, hcl, hK, hcell⟩ := Kd.C_get hC (0, E0, E0) (j : Int) (by omega) (by omega)
  injection had with had
  subst had
  obtain rfl := kW_open hK
  have he : (logOf h kept).getD (j : Int).toNat (0, E0, E0) = entry h (kept + j) := by
    rw [Int.toNat_natCast, List.getD_eq_getElem?_getD]
    unfold logOf
    rw [List.getElem?_map, List.getElem?_range (by omega)]
    rfl
  rw [he, Int.toNat_natCast] at hcell
  refine ⟨g, c, by rw [hv, hl], ?_, ?_, ?_⟩
  · have := hcell 0 _ rfl
    unfold entry at this
    rwa [add_mid3] at this
  · have := hcell 1 _ rfl
    unfold entry at this
    rwa [add_mid3] at this
  · have := hcell 2 _ rfl
    unfold entry at this
    rwa [add_mid3] at this
set_option maxHeartbeats 4000000 in
set_option maxRecDepth 100000 in
theorem log_calls {W : World} {p M n kept : Nat} {v : Value} {h : Hist} (H : DkAt W p M v n h kept) (hl : h.length ≤ 1000000) :
    Calls Tryd.prog 15 #[.pointer (some ⟨p, 0, none⟩)] W fun e w' => ∃ u, e = .returned u ∧ kA.R 31 w' W.heap.size (fun _ => True) u (logA (h.drop kept)) ∧ Below W.heap.size W w' := by
  have HD := Lib.hid H
  have Hl := Lib.hid hl
  obtain ⟨m, hm⟩ : ∃ m, h.length - kept = m := ⟨_, rfl⟩
  have Hm := Lib.hid hm
  obtain ⟨c0, c1, c2⟩ := H.cells
  obtain ⟨A0, cap0, hv⟩ := H.log_slice
  rw [hm] at hv
  subst hv
  clear H hl hm
  go_enter Tryd.func15, Tryd.ntmps15
  go_wp2_with fail
  clear c0 c1 c2
  go_loopw [13, 3] (fun iv av V => ∃ j : Nat, j ≤ m ∧ iv = .int .i64 (j : Int) ∧ Aside0 (DkAt V p M (.slice A0 m cap0) n h kept) ∧ Aside0 (kA.R 31 V W.heap.size (fun _ => True) av (logA ((h.drop kept).take j))) ∧ Aside0 (Below W.heap.size W V)) (fun iv _ _ => m - (ixOf iv).toNat)
  case atStart => exact ⟨0, Nat.zero_le _, rfl, ⟨HD.out⟩, ⟨Kd.R_nil _ _ _ _ _⟩, ⟨Below.refl _ _⟩⟩
  case round =>
    obtain ⟨j, hj, rfl, ⟨hdk⟩, ⟨hr⟩, ⟨hb⟩⟩ := hrel
    have HDj := Lib.hid hdk
    have HRj := Lib.hid hr
    have HBj := Lib.hid hb
    clear hdk hr hb HD
    by_cases hlt : j < m
    · have hd := decide_eq_true (show (j : Int) < (m : Int) by omega)
      have hdn := decide_eq_true hlt
      have HK : Hid (kept + j < h.length) := Lib.hid (by have := Hm.out; omega)
      obtain ⟨g, cc, hA, q0, q1, q2⟩ := HDj.out.at_ j HK.out
      have hA0 := (Value.slice.inj hA).1
      clear hA
      subst hA0
      have hsl : ((h.getD (kept + j) (0, E0)).2).size ≤ 512 := (HDj.out.good _ (by rw [List.getD_eq_getElem?_getD, List.getElem?_eq_getElem HK.out]; exact List.getElem_mem _)).2.1
      have HN := Lib.hid (logA_take h kept j HK.out)
      obtain ⟨a, ha⟩ : ∃ a : Nat, (h.getD (kept + j) (0, E0)).1 = a := ⟨_, rfl⟩
      obtain ⟨s, hs⟩ : ∃ s : ByteArray, (h.getD (kept + j) (0, E0)).2 = s := ⟨_, rfl⟩
      obtain ⟨z, hz⟩ : ∃ z : ByteArray, cont (h.take (kept + j)) a = z := ⟨_, rfl⟩
      rw [ha] at q0 q2 HN
      rw [hs] at q1 hsl HN
      rw [hz] at q2
      have HF := Lib.hid (fun V => full_calls s hsl V)
      have p1 : (0 ≤ (j : Int)) = True := eq_true (by omega)
      have p2 : ((j : Int) < (m : Int)) = True := eq_true (by omega)
      have hnx : wrap64 ((j : Int) + 1) = (j : Int) + 1 := by have := Hm.out; have := Hl.out; clear hd p1 p2; unfold wrap64; omega
      have Hlt := Lib.hid hlt
      have Hnx := Lib.hid hnx
      clear ha hs hz hsl hlt hj hnx
      go_upto_region 6 with fail
      go_wp2_with fail
      obtain ⟨b, hb⟩ : ∃ b, wr.heap.size = b := ⟨_, rfl⟩
      have HCb : Hid ((wr.alloc (.cells #[.int .i64 (a : Int), .string s, .string z] 65)).heap[b]? = some (.cells #[.int .i64 (a : Int), .string s, .string z] 65 (0, 0))) := Lib.hid (by rw [← hb]; exact blk_new wr _)
      have HD2 := Lib.hid (HDj.out.alloc (.cells #[.int .i64 (a : Int), .string s, .string z] 65))
      have HR2 := Lib.hid (Kd.R_alloc HRj.out (.cells #[.int .i64 (a : Int), .string s, .string z] 65))
      have HB2 := Lib.hid (below_alloc HBj.out (.cells #[.int .i64 (a : Int), .string s, .string z] 65))
      have Hb := Lib.hid hb
      rw [hb]
      obtain ⟨W2, hW2⟩ : ∃ V, wr.alloc (.cells #[.int .i64 (a : Int), .string s, .string z] 65) = V := ⟨_, rfl⟩
      rw [hW2] at HCb HD2 HR2 HB2
      rw [hW2]
      clear hW2 hb q0 q1 q2
      refine start_ (n := 12) (S := fun w' => w'.cell? ⟨b, 0, none⟩ = some (.int .i64 (a : Int)) ∧ w'.cell? ⟨b, 1, none⟩ = some (.string s)) (ds := []) #[false, false, false, false, false, false, false, false, false, false, false, false] (by kernel_rfl) rfl rfl ⟨blk_cell HCb.out 0, blk_cell HCb.out 1⟩ (fun hHeld => ?_)
      refine pure_ (i := 0) (N := some 17) (v := ?_) (a' := ?_) #[true, false, false, false, false, false, false, false, false, false, false, false] rfl rfl (by kernel_rfl) (fun _ _ _ h => h) (Or.inl ⟨by rfl, ?_⟩) ?_ ?_
      rotate_left
      · intro w'
        go_simp
        with_reducible rfl
      rotate_left
      · simp only [Act.put, List.setIfInBounds_toArray, List.set_cons_zero, List.set_cons_succ, i64_w, i32_w]
        rfl
      refine pure_ (i := 1) (N := some 18) (v := ?_) (a' := ?_) #[true, true, false, false, false, false, false, false, false, false, false, false] rfl rfl (by kernel_rfl) (fun _ _ _ h => h) (Or.inl ⟨by rfl, ?_⟩) ?_ ?_
      rotate_left
      · intro w'
        go_simp
        with_reducible rfl
      rotate_left
      · simp only [Act.put, List.setIfInBounds_toArray, List.set_cons_zero, List.set_cons_succ, i64_w, i32_w]
        rfl
      refine pure_ (i := 2) (N := some 19) (v := ?_) (a' := ?_) #[true, true, true, false, false, false, false, false, false, false, false, false] rfl rfl (by kernel_rfl) (fun _ _ _ h => h) (Or.inl ⟨by rfl, ?_⟩) ?_ ?_
      rotate_left
      · intro w'
        go_simp
        with_reducible rfl
      rotate_left
      · simp only [Act.put, List.setIfInBounds_toArray, List.set_cons_zero, List.set_cons_succ, i64_w, i32_w]
        rfl
      refine pure_ (i := 4) (N := some 21) (v := ?_) (a' := ?_) #[true, true, true, false, true, false, false, false, false, false, false, false] rfl rfl (by kernel_rfl) (fun _ _ _ h => h) (Or.inl ⟨by rfl, ?_⟩) ?_ ?_
      rotate_left
      · intro w'
        go_simp
        with_reducible rfl
      rotate_left
      · simp only [Act.put, List.setIfInBounds_toArray, List.set_cons_zero, List.set_cons_succ, i64_w, i32_w]
        rfl
      refine pure_ (i := 5) (N := some 22) (v := ?_) (a' := ?_) #[true, true, true, false, true, true, false, false, false, false, false, false] rfl rfl (by kernel_rfl) (fun _ _ _ h => h) (Or.inl ⟨by rfl, ?_⟩) ?_ ?_
      rotate_left
      · intro w'
        go_simp
        with_reducible rfl
      rotate_left
      · simp only [Act.put, List.setIfInBounds_toArray, List.set_cons_zero, List.set_cons_succ, i64_w, i32_w]
        rfl
      refine take_ (i := 3) (N := some 20) (v := ?_) (a' := ?_) #[true, true, true, true, true, true, false, false, false, false, false, false] rfl rfl (by kernel_rfl) (fun _ _ _ h => h) (Or.inl ⟨by rfl, ?_⟩) hHeld ?_ ?_
      rotate_left
      · rintro w' ⟨s0, s1⟩
        go_simp
        with_reducible rfl
      rotate_left
      · simp only [Act.put, List.setIfInBounds_toArray, List.set_cons_zero, List.set_cons_succ, i64_w, i32_w]
        rfl
      refine take_ (i := 6) (N := some 23) (v := ?_) (a' := ?_) #[true, true, true, true, true, true, true, false, false, false, false, false] rfl rfl (by kernel_rfl) (fun _ _ _ h => h) (Or.inl ⟨by rfl, ?_⟩) hHeld ?_ ?_
      rotate_left
      · rintro w' ⟨s0, s1⟩
        go_simp
        with_reducible rfl
      rotate_left
      · simp only [Act.put, List.setIfInBounds_toArray, List.set_cons_zero, List.set_cons_succ, i64_w, i32_w]
        rfl
      refine one_ (i := 7) (N := some 24) #[true, true, true, true, true, true, true, true, false, false, false, false] rfl rfl (by kernel_rfl) (by decide) (fun K hK => ?_)
      refine goes_ Tryd.func29 (by kernel_rfl) rfl #[.string s] (by rfl) rfl rfl (by simp only [List.map_toArray, List.map_cons, List.map_nil]; rfl) ?_
      with_reducible refine (HF.out _).mono ?_
      rintro e w4 ⟨rfl, hb4⟩
      refine ⟨_, rfl, ?_⟩
      have HD4 := Lib.hid (HD2.out.drew.below hb4 (Nat.le_refl _))
      have HR4 := Lib.hid (Kd.R_below (Kd.R_drew HR2.out) hb4)
      have HB4 := Lib.hid (below_step (below_drew HB2.out) hb4)
      have HC4 := Lib.hid (blk_below (w := W2.drew) HCb.out hb4)
      clear hb4
      refine hK.out _ _ ⟨blk_cell HC4.out 0, blk_cell HC4.out 1⟩ (fun hHeld => ?_)
      clear hK K
      refine norm_ (a' := ?_) ?_ ?_
      rotate_left
      · show Act.put _ (some 24) _ = _
        simp only [Act.put, List.setIfInBounds_toArray, List.set_cons_zero, List.set_cons_succ, i64_w, i32_w]
        rfl
      refine pure_ (i := 8) (N := some 25) (v := ?_) (a' := ?_) #[true, true, true, true, true, true, true, true, true, false, false, false] rfl rfl (by kernel_rfl) (fun _ _ _ h => h) (Or.inl ⟨by rfl, ?_⟩) ?_ ?_
      rotate_left
      · intro w'
        go_simp
        with_reducible rfl
      rotate_left
      · simp only [Act.put, List.setIfInBounds_toArray, List.set_cons_zero, List.set_cons_succ, i64_w, i32_w]
        rfl
      refine one_ (i := 9) (N := some 26) #[true, true, true, true, true, true, true, true, true, true, false, false] rfl rfl (by kernel_rfl) (by decide) (fun K hK => ?_)
      refine value_ (w1 := ?_) (v := ?_) (by rfl) rfl ?_ ?_
      rotate_left 2
      · go_simp
        constructor
        · rfl
        · rfl
      refine hK.out _ _ ⟨blk_cell (blk_below HC4.out (below_alloc (Below.refl _ _) _)) 0, blk_cell (blk_below HC4.out (below_alloc (Below.refl _ _) _)) 1⟩ (fun hHeld => ?_)
      clear hK K
      refine norm_ (a' := ?_) ?_ ?_
      rotate_left
      · show Act.put _ (some 26) _ = _
        simp only [Act.put, List.setIfInBounds_toArray, List.set_cons_zero, List.set_cons_succ, i64_w, i32_w]
        rfl
      refine one_ (i := 10) (N := some 27) #[true, true, true, true, true, true, true, true, true, true, true, false] rfl rfl (by kernel_rfl) (by decide) (fun K hK => ?_)
      refine Kd.R_append_step kA (w0 := W) W.heap.size (by rfl) (.tmp 17) (.tmp 26) 22 31 (.agg #[.int .i64 0, .string ByteArray.empty]) 24 rfl Tryd.underlying22 infoWa (by rfl) (by decide) (by decide) u3 (logA ((h.drop kept).take j)) ((a : Int), full s) (aCells ((a : Int), full s)) (fun _ => True) (fun _ => False) (by rfl) (by rfl) (kA_mk _ _ _ _) (fun _ h => h.elim) (fun _ _ => trivial) HR4.out HB4.out HB4.out.size (by rw [logA_length, List.length_take, List.length_drop]; have := Hl.out; omega) ?_
      intro v9 w9 hr9 hb9 hg9 hat9
      have HR9 := Lib.hid hr9
      have HB9 := Lib.hid hb9
      have HD9 : Hid (DkAt w9 p M (.slice (some ⟨g, 0, none⟩) m cap0) n h kept) := Lib.hid (by have hne := dk_row_ne HD4.out HR4.out; exact HD4.out.move (hg9.block p HD4.out.lt.1 hne.1) (hg9.block M HD4.out.lt.2.1 hne.2.1) (fun k hk => hg9.block k (HD4.out.lt.2.2 k hk) (hne.2.2 k hk)))
      have t9 : w9.heap[b]? = some (.cells #[.int .i64 (a : Int), .string s, .string z] 65 (0, 0)) := (hg9.block b (blk_lt HC4.out) (Kd.R_ne HR4.out HC4.out (by decide))).trans HC4.out
      clear hr9 hb9 hg9 hat9
      refine hK.out _ _ ⟨blk_cell t9 0, blk_cell t9 1⟩ (fun hHeld => ?_)
      clear hK K
      refine norm_ (a' := ?_) ?_ ?_
      rotate_left
      · show Act.put _ (some 27) _ = _
        simp only [Act.put, List.setIfInBounds_toArray, List.set_cons_zero, List.set_cons_succ, i64_w, i32_w]
        rfl
      refine pure_ (i := 11) (N := some 3) (v := ?_) (a' := ?_) #[true, true, true, true, true, true, true, true, true, true, true, true] rfl rfl (by kernel_rfl) (fun _ _ _ h => h) (Or.inl ⟨by rfl, ?_⟩) ?_ ?_
      rotate_left
      · intro w'
        go_simp
        with_reducible rfl
      rotate_left
      · simp only [Act.put, List.setIfInBounds_toArray, List.set_cons_zero, List.set_cons_succ, i64_w, i32_w]
        rfl
      refine done_ (by kernel_rfl) ?_
      have hnx := Hnx.out
      clear hHeld
      go_wp2
      go_roundw
      case rel => exact ⟨j + 1, Hlt.out, by first | rfl | (rw [hnx]; rfl), ⟨HD9.out⟩, ⟨by rw [HN.out]; exact HR9.out⟩, ⟨HB9.out⟩⟩
      case measure => have h1 := Hlt.out; first | (rw [hnx]; simp [ixOf, Go.RowKit.intOf]; omega) | (simp [ixOf, Go.RowKit.intOf]; omega)
    · obtain rfl : j = m := by omega
      have hd := decide_eq_false (show ¬ (j : Int) < (j : Int) by omega)
      have HE : Hid ((h.drop kept).take j = h.drop kept) := Lib.hid (List.take_of_length_le (by rw [List.length_drop]; have := Hm.out; omega))
      clear hlt hj
      go_wp2
      go_ret
      exact ⟨_, rfl, by rw [← HE.out]; exact HRj.out, HBj.out⟩
end Go.Proofs.YteooldbdilkmeaaDoor.SC

namespace Go.Proofs.YteooldbdilkmeaaDoor.SC
open Go.RowKit Go.Maps Go.Proofs.YteooldbdilkmeaaDoorW.PrintWords Go.Proofs.YteooldbdilkmeaaDoorW.PrintLast Go.Proofs.YteooldbdilkmeaaDoorW.PrintMore
set_option linter.unusedVariables false
set_option linter.unusedSimpArgs false
theorem mclone_calls {W : World} {M n : Nat} {D : DataW Unit} (ho : W.ownsMap Tryd.prog 3 heldE M n D) :
    Calls Tryd.prog 33 #[.map (some M)] W fun e w' => e = .returned (.map (some W.heap.size)) ∧ w'.ownsMap Tryd.prog 3 heldE W.heap.size n D ∧ Below W.heap.size W w' := by
  obtain ⟨es, clock, hb, F, hs, hD⟩ := ho
  refine (Tryd.maps_Clone_any M es clock W hb).mono fun e w' ⟨h1, h2⟩ => ⟨h1, ?_, ?_⟩
  · subst h2
    exact ⟨es, clock, (MapKept.heap_alloc W _).1, F, hs, hD⟩
  · subst h2
    exact below_alloc (Below.refl _ _) _
set_option maxHeartbeats 1000000 in
set_option maxRecDepth 100000 in
theorem cut_no {W : World} {p M n kept : Nat} {v : Value} {h : Hist} (H : DkAt W p M v n h kept) (k : Int) (hk : k < 0 ∨ ((h.length - kept : Nat) : Int) < k) :
    Calls Tryd.prog 16 #[.pointer (some ⟨p, 0, none⟩), .int .i64 k] W fun e w' => e = .returned (.tuple #[.pointer none, .int .i64 2]) ∧ Below W.heap.size W w' := by
  have HD := Lib.hid H
  have HC := Lib.hid (check_calls H 0)
  rw [show chk n 0 = 0 from if_pos (by have := H.nn; omega)] at HC
  obtain ⟨A0, cap0, hv⟩ := H.log_slice
  obtain ⟨m, hm⟩ : ∃ m, h.length - kept = m := ⟨_, rfl⟩
  rw [hm] at hv hk
  subst hv
  clear H hm
  go_enter Tryd.func16, Tryd.ntmps16
  go_wp2_with fail
  refine HC.out.mono ?_; rintro e w1 ⟨rfl, hb1⟩
  have HD1 := Lib.hid (HD.out.below hb1 (Nat.le_refl _))
  have HB1 := Lib.hid hb1
  obtain ⟨c0, c1, c2⟩ := HD1.out.cells
  clear hb1
  by_cases h0 : k < 0
  · have hd := decide_eq_true h0
    clear hk h0
    go_wp2
    go_ret2
    exact ⟨rfl, HB1.out⟩
  · have hd := decide_eq_false h0
    have hd2 : decide ((m : Int) < k) = true := decide_eq_true (by omega)
    clear hk h0
    go_wp2
    go_ret2
    exact ⟨rfl, HB1.out⟩
set_option maxHeartbeats 4000000 in
set_option maxRecDepth 100000 in
theorem cut_calls {W : World} {p M n kept : Nat} {v : Value} {h : Hist} (H : DkAt W p M v n h kept) (hl : h.length ≤ 1000000) (k : Nat) (hk : kept + k ≤ h.length) :
    Calls Tryd.prog 16 #[.pointer (some ⟨p, 0, none⟩), .int .i64 (k : Int)] W fun e w' => ∃ pc Mc, e = .returned (.tuple #[.pointer (some ⟨pc, 0, none⟩), .int .i64 0]) ∧ DkAt w' pc Mc (.slice none 0 0) n (h.take (kept + k)) (kept + k) ∧ W.heap.size ≤ pc ∧ W.heap.size ≤ Mc ∧ Below W.heap.size W w' := by
  have HD := Lib.hid H
  have HC := Lib.hid (check_calls H 0)
  rw [show chk n 0 = 0 from if_pos (by have := H.nn; omega)] at HC
  obtain ⟨A0, cap0, hv⟩ := H.log_slice
  obtain ⟨m, hm⟩ : ∃ m, h.length - kept = m := ⟨_, rfl⟩
  have Hm := Lib.hid hm
  have Hl := Lib.hid hl
  have Hk := Lib.hid hk
  have HNN := Lib.hid H.nn
  have HMm : Hid (kept + m = h.length) := Lib.hid (by have := H.le; omega)
  have hd : decide ((m : Int) < (k : Int)) = false := decide_eq_false (by omega)
  have hd0 : decide ((k : Int) < 0) = false := decide_eq_false (by omega)
  have hdn : decide (m < k) = false := decide_eq_false (by omega)
  rw [hm] at hv
  subst hv
  clear H hm hl hk
  go_enter Tryd.func16, Tryd.ntmps16
  go_wp2_with fail
  refine HC.out.mono ?_; rintro e w1 ⟨rfl, hb1⟩
  have HD1 := Lib.hid (HD.out.below hb1 (Nat.le_refl _))
  have HB1 := Lib.hid hb1
  obtain ⟨c0, c1, c2⟩ := HD1.out.cells
  obtain ⟨D, ho, hmi⟩ := HD1.out.map
  have HCl := Lib.hid (mclone_calls (W := w1.drew) ho)
  have HMi := Lib.hid hmi
  clear hb1 ho hmi HC
  go_upto_region 6 with fail
  refine start_ (n := 12) (S := fun w' => w'.cell? ⟨p, 0, none⟩ = some (.int .i64 (n : Int)) ∧ w'.cell? ⟨p, 1, none⟩ = some (.map (some M))) (ds := []) #[false, false, false, false, false, false, false, false, false, false, false, false] (by kernel_rfl) rfl rfl ⟨HD1.out.drew.cells.1, HD1.out.drew.cells.2.1⟩ (fun hHeld => ?_)
  refine pure_ (i := 0) (N := some 25) (v := ?_) (a' := ?_) #[true, false, false, false, false, false, false, false, false, false, false, false] rfl rfl (by kernel_rfl) (fun _ _ _ h => h) (Or.inl ⟨by rfl, ?_⟩) ?_ ?_
  rotate_left
  · intro w'
    go_simp
    with_reducible rfl
  rotate_left
  · simp only [Act.put, List.setIfInBounds_toArray, List.set_cons_zero, List.set_cons_succ, i64_w, i32_w]
    rfl
  refine pure_ (i := 1) (N := some 26) (v := ?_) (a' := ?_) #[true, true, false, false, false, false, false, false, false, false, false, false] rfl rfl (by kernel_rfl) (fun _ _ _ h => h) (Or.inl ⟨by rfl, ?_⟩) ?_ ?_
  rotate_left
  · intro w'
    go_simp
    with_reducible rfl
  rotate_left
  · simp only [Act.put, List.setIfInBounds_toArray, List.set_cons_zero, List.set_cons_succ, i64_w, i32_w]
    rfl
  refine pure_ (i := 2) (N := some 27) (v := ?_) (a' := ?_) #[true, true, true, false, false, false, false, false, false, false, false, false] rfl rfl (by kernel_rfl) (fun _ _ _ h => h) (Or.inl ⟨by rfl, ?_⟩) ?_ ?_
  rotate_left
  · intro w'
    go_simp
    with_reducible rfl
  rotate_left
  · simp only [Act.put, List.setIfInBounds_toArray, List.set_cons_zero, List.set_cons_succ, i64_w, i32_w]
    rfl
  refine pure_ (i := 4) (N := some 29) (v := ?_) (a' := ?_) #[true, true, true, false, true, false, false, false, false, false, false, false] rfl rfl (by kernel_rfl) (fun _ _ _ h => h) (Or.inl ⟨by rfl, ?_⟩) ?_ ?_
  rotate_left
  · intro w'
    go_simp
    with_reducible rfl
  rotate_left
  · simp only [Act.put, List.setIfInBounds_toArray, List.set_cons_zero, List.set_cons_succ, i64_w, i32_w]
    rfl
  refine pure_ (i := 5) (N := some 30) (v := ?_) (a' := ?_) #[true, true, true, false, true, true, false, false, false, false, false, false] rfl rfl (by kernel_rfl) (fun _ _ _ h => h) (Or.inl ⟨by rfl, ?_⟩) ?_ ?_
  rotate_left
  · intro w'
    go_simp
    with_reducible rfl
  rotate_left
  · simp only [Act.put, List.setIfInBounds_toArray, List.set_cons_zero, List.set_cons_succ, i64_w, i32_w]
    rfl
  refine pure_ (i := 6) (N := some 31) (v := ?_) (a' := ?_) #[true, true, true, false, true, true, true, false, false, false, false, false] rfl rfl (by kernel_rfl) (fun _ _ _ h => h) (Or.inl ⟨by rfl, ?_⟩) ?_ ?_
  rotate_left
  · intro w'
    go_simp
    with_reducible rfl
  rotate_left
  · simp only [Act.put, List.setIfInBounds_toArray, List.set_cons_zero, List.set_cons_succ, i64_w, i32_w]
    rfl
  refine take_ (i := 3) (N := some 28) (v := ?_) (a' := ?_) #[true, true, true, true, true, true, true, false, false, false, false, false] rfl rfl (by kernel_rfl) (fun _ _ _ h => h) (Or.inl ⟨by rfl, ?_⟩) hHeld ?_ ?_
  rotate_left
  · rintro w' ⟨s0, s1⟩
    go_simp
    with_reducible rfl
  rotate_left
  · simp only [Act.put, List.setIfInBounds_toArray, List.set_cons_zero, List.set_cons_succ, i64_w, i32_w]
    rfl
  refine take_ (i := 7) (N := some 32) (v := ?_) (a' := ?_) #[true, true, true, true, true, true, true, true, false, false, false, false] rfl rfl (by kernel_rfl) (fun _ _ _ h => h) (Or.inl ⟨by rfl, ?_⟩) hHeld ?_ ?_
  rotate_left
  · rintro w' ⟨s0, s1⟩
    go_simp
    with_reducible rfl
  rotate_left
  · simp only [Act.put, List.setIfInBounds_toArray, List.set_cons_zero, List.set_cons_succ, i64_w, i32_w]
    rfl
  refine one_ (i := 8) (N := some 33) #[true, true, true, true, true, true, true, true, true, false, false, false] rfl rfl (by kernel_rfl) (by decide) (fun K hK => ?_)
  refine goes_ Tryd.func33 (by kernel_rfl) rfl #[.map (some M)] (by rfl) rfl rfl (by simp only [List.map_toArray, List.map_cons, List.map_nil]; rfl) ?_
  with_reducible refine (HCl.out).mono ?_
  rintro e w3 ⟨rfl, ho3, hb3⟩
  refine ⟨_, rfl, ?_⟩
  have HD3 := Lib.hid (HD1.out.drew.below hb3 (Nat.le_refl _))
  have HB3 := Lib.hid (below_step (below_drew HB1.out) hb3)
  have HO3 := Lib.hid ho3
  clear ho3 hb3
  refine hK.out _ _ ⟨HD3.out.cells.1, HD3.out.cells.2.1⟩ (fun hHeld => ?_)
  clear hK K
  refine norm_ (a' := ?_) ?_ ?_
  rotate_left
  · show Act.put _ (some 33) _ = _
    simp only [Act.put, List.setIfInBounds_toArray, List.set_cons_zero, List.set_cons_succ, i64_w, i32_w]
    rfl
  refine pure_ (i := 9) (N := some 34) (v := ?_) (a' := ?_) #[true, true, true, true, true, true, true, true, true, true, false, false] rfl rfl (by kernel_rfl) (fun _ _ _ h => h) (Or.inl ⟨by rfl, ?_⟩) ?_ ?_
  rotate_left
  · intro w'
    go_simp
    with_reducible rfl
  rotate_left
  · simp only [Act.put, List.setIfInBounds_toArray, List.set_cons_zero, List.set_cons_succ, i64_w, i32_w]
    rfl
  refine one_ (i := 10) (N := some 35) #[true, true, true, true, true, true, true, true, true, true, true, false] rfl rfl (by kernel_rfl) (by decide) (fun K hK => ?_)
  refine value_ (w1 := ?_) (v := ?_) (by rfl) rfl ?_ ?_
  rotate_left 2
  · go_simp
    constructor
    · rfl
    · rfl
  refine hK.out _ _ ⟨(HD3.out.alloc _).cells.1, (HD3.out.alloc _).cells.2.1⟩ (fun hHeld => ?_)
  clear hK K
  refine norm_ (a' := ?_) ?_ ?_
  rotate_left
  · show Act.put _ (some 35) _ = _
    simp only [Act.put, List.setIfInBounds_toArray, List.set_cons_zero, List.set_cons_succ, i64_w, i32_w]
    rfl
  refine pure_ (i := 11) (N := some 7) (v := ?_) (a' := ?_) #[true, true, true, true, true, true, true, true, true, true, true, true] rfl rfl (by kernel_rfl) (fun _ _ _ h => h) (Or.inl ⟨by rfl, ?_⟩) ?_ ?_
  rotate_left
  · intro w'
    go_simp
    with_reducible rfl
  rotate_left
  · simp only [Act.put, List.setIfInBounds_toArray, List.set_cons_zero, List.set_cons_succ, i64_w, i32_w]
    rfl
  refine done_ (by kernel_rfl) ?_
  clear hHeld
  obtain ⟨Mc, hMc⟩ : ∃ x, w1.heap.size = x := ⟨_, rfl⟩
  obtain ⟨pc, hpc⟩ : ∃ x, w3.heap.size = x := ⟨_, rfl⟩
  have hsz : w1.drew.heap.size = w1.heap.size := rfl
  have HMc : Hid (W.heap.size ≤ Mc) := Lib.hid (by rw [← hMc]; exact HB1.out.size)
  have HPc : Hid (W.heap.size ≤ pc) := Lib.hid (by rw [← hpc]; exact HB3.out.size)
  rw [hsz, hMc] at HO3
  rw [hsz, hMc, hpc]
  have HKc : Hid ((w3.alloc (.cells #[.int .i64 (n : Int), .map (some Mc), .slice none 0 0] 58)).heap[pc]? = some (.cells #[.int .i64 (n : Int), .map (some Mc), .slice none 0 0] 58 (0, 0))) := Lib.hid (by rw [← hpc]; exact blk_new w3 _)
  have HOc := Lib.hid (HO3.out.alloc (.cells #[.int .i64 (n : Int), .map (some Mc), .slice none 0 0] 58))
  have HBc := Lib.hid (below_alloc HB3.out (.cells #[.int .i64 (n : Int), .map (some Mc), .slice none 0 0] 58))
  obtain ⟨W4, hW4⟩ : ∃ V, w3.alloc (.cells #[.int .i64 (n : Int), .map (some Mc), .slice none 0 0] 58) = V := ⟨_, rfl⟩
  rw [hW4] at HKc HOc HBc
  rw [hW4]
  have HD4 := Lib.hid (HD.out.below HBc.out (Nat.le_refl _))
  obtain ⟨c0, c1, c2⟩ := HD4.out.cells
  have hwm : wrap64 ((m : Int) - 1) = (m : Int) - 1 := by have := HMm.out; have := Hl.out; unfold wrap64; omega
  generalize Value.agg #[.int .i64 (n : Int), .map (some Mc), .slice none 0 0] = ua
  clear hW4 hMc hpc hsz HO3 HB3 HD3 HCl HB1 HD1
  go_wp2_with fail
  have Hwm := Lib.hid hwm
  clear c0 c1 c2 hwm
  go_loopw [8] (fun iv V => ∃ (q : Nat) (x : Int), k ≤ q ∧ q ≤ m ∧ iv = .int .i64 x ∧ x + 1 = (q : Int) ∧ Aside0 (V.heap[pc]? = some (.cells #[.int .i64 (n : Int), .map (some Mc), .slice none 0 0] 58 (0, 0))) ∧ Aside0 (∃ D, V.ownsMap Tryd.prog 3 heldE Mc n D ∧ MapIs D n (cont (h.take (kept + q)))) ∧ Aside0 (Below W.heap.size W V)) (fun iv _ => (ixOf iv + 1).toNat)
  case atStart => exact ⟨m, wrap64 ((m : Int) - 1), by have := Hk.out; have := HMm.out; omega, Nat.le_refl _, by rfl, by rw [Hwm.out]; omega, ⟨HKc.out⟩, ⟨D, HOc.out, HMi.out.congr (by rw [HMm.out, List.take_length])⟩, ⟨HBc.out⟩⟩
  case round =>
    obtain ⟨q, x, hkq, hqm, rfl, hx, ⟨hkc⟩, ⟨hoc⟩, ⟨hb⟩⟩ := hrel
    have HKj := Lib.hid hkc
    have HOj := Lib.hid hoc
    have HBj := Lib.hid hb
    clear hkc hoc hb HKc HOc HBc HD4
    have HDj := Lib.hid (HD.out.below HBj.out (Nat.le_refl _))
    by_cases hlt : k < q
    · obtain ⟨r, rfl⟩ : ∃ r, q = r + 1 := ⟨q - 1, by omega⟩
      obtain rfl : x = (r : Int) := by omega
      have hd := decide_eq_true (show (k : Int) ≤ (r : Int) by omega)
      have hdn : decide (k ≤ r) = true := decide_eq_true (by omega)
      have HK : Hid (kept + r < h.length) := Lib.hid (by have := HMm.out; omega)
      obtain ⟨g, cc, hA, q0, q1, q2⟩ := HDj.out.at_ r HK.out
      have hA0 := (Value.slice.inj hA).1
      clear hA
      subst hA0
      have HIn := Lib.hid (HD.out.good _ (by rw [List.getD_eq_getElem?_getD, List.getElem?_eq_getElem HK.out]; exact List.getElem_mem _ : h.getD (kept + r) (0, E0) ∈ h))
      have HBk : Hid (upd (cont (h.take (kept + (r + 1)))) (h.getD (kept + r) (0, E0)).1 (cont (h.take (kept + r)) (h.getD (kept + r) (0, E0)).1) = cont (h.take (kept + r))) := Lib.hid (by
        have := cont_back h (kept + r) HK.out
        rw [List.getD_eq_getElem?_getD, List.getElem?_eq_getElem HK.out]
        exact this)
      obtain ⟨a, ha⟩ : ∃ a : Nat, (h.getD (kept + r) (0, E0)).1 = a := ⟨_, rfl⟩
      obtain ⟨z, hz⟩ : ∃ z : ByteArray, cont (h.take (kept + r)) a = z := ⟨_, rfl⟩
      rw [ha] at q0 q2 HIn HBk
      rw [hz] at q2 HBk
      obtain ⟨c0, c1, c2⟩ := HDj.out.cells
      obtain ⟨Dj, hoj, hmj⟩ := HOj.out
      have HMo : Hid (∃ es ck, wr.heap[Mc]? = some (.map es ck)) := Lib.hid (by
        obtain ⟨es, ck, hb, _⟩ := hoj
        exact ⟨es, ck, hb⟩)
      have HP := Lib.hid (fun V (hbl : Below wr.heap.size wr V) => put_calls (W := V) ((hbl.block pc (blk_lt HKj.out)).trans HKj.out) (ownsMap_move hoj (hbl.block Mc hoj.lt)) hmj HNN.out.2 a HIn.out.1 z)
      have p1 : (0 ≤ (r : Int)) = True := eq_true (by omega)
      have p2 : ((r : Int) < (m : Int)) = True := eq_true (by omega)
      have hnx : wrap64 ((r : Int) - 1) = (r : Int) - 1 := by have := HMm.out; have := Hl.out; clear hd p1 p2; unfold wrap64; omega
      have Hlt : Hid (k ≤ r ∧ r ≤ m) := Lib.hid (by omega)
      have Hnx := Lib.hid hnx
      clear ha hz hlt hkq hqm hx hnx hoj hmj q1
      go_upto_region 10 with fail
      refine start_ (n := 19) (S := fun w' => w'.cell? ⟨p, 2, none⟩ = some (.slice (some ⟨g, 0, none⟩) m cap0) ∧ w'.cell? ⟨g, r * 3, none⟩ = some (.int .i64 (a : Int)) ∧ w'.cell? ⟨g, r * 3 + 2, none⟩ = some (.string z)) (ds := [18]) #[false, false, false, false, false, false, false, false, false, false, false, false, false, false, false, false, false, false, false] (by kernel_rfl) rfl rfl ⟨c2, q0, q2⟩ (fun hHeld => ?_)
      refine pure_ (i := 0) (N := some 47) (v := ?_) (a' := ?_) #[true, false, false, false, false, false, false, false, false, false, false, false, false, false, false, false, false, false, false] rfl rfl (by kernel_rfl) (fun _ _ _ h => h) (Or.inl ⟨by rfl, ?_⟩) ?_ ?_
      rotate_left
      · intro w'
        go_simp
        with_reducible rfl
      rotate_left
      · simp only [Act.put, List.setIfInBounds_toArray, List.set_cons_zero, List.set_cons_succ, i64_w, i32_w]
        rfl
      refine pure_ (i := 1) (N := some 48) (v := ?_) (a' := ?_) #[true, true, false, false, false, false, false, false, false, false, false, false, false, false, false, false, false, false, false] rfl rfl (by kernel_rfl) (fun _ _ _ h => h) (Or.inl ⟨by rfl, ?_⟩) ?_ ?_
      rotate_left
      · intro w'
        go_simp
        with_reducible rfl
      rotate_left
      · simp only [Act.put, List.setIfInBounds_toArray, List.set_cons_zero, List.set_cons_succ, i64_w, i32_w]
        rfl
      refine pure_ (i := 2) (N := some 49) (v := ?_) (a' := ?_) #[true, true, true, false, false, false, false, false, false, false, false, false, false, false, false, false, false, false, false] rfl rfl (by kernel_rfl) (fun _ _ _ h => h) (Or.inl ⟨by rfl, ?_⟩) ?_ ?_
      rotate_left
      · intro w'
        go_simp
        with_reducible rfl
      rotate_left
      · simp only [Act.put, List.setIfInBounds_toArray, List.set_cons_zero, List.set_cons_succ, i64_w, i32_w]
        rfl
      refine pure_ (i := 3) (N := some 50) (v := ?_) (a' := ?_) #[true, true, true, true, false, false, false, false, false, false, false, false, false, false, false, false, false, false, false] rfl rfl (by kernel_rfl) (fun _ _ _ h => h) (Or.inl ⟨by rfl, ?_⟩) ?_ ?_
      rotate_left
      · intro w'
        go_simp
        with_reducible rfl
      rotate_left
      · simp only [Act.put, List.setIfInBounds_toArray, List.set_cons_zero, List.set_cons_succ, i64_w, i32_w]
        rfl
      refine pure_ (i := 5) (N := some 52) (v := ?_) (a' := ?_) #[true, true, true, true, false, true, false, false, false, false, false, false, false, false, false, false, false, false, false] rfl rfl (by kernel_rfl) (fun _ _ _ h => h) (Or.inl ⟨by rfl, ?_⟩) ?_ ?_
      rotate_left
      · intro w'
        go_simp
        with_reducible rfl
      rotate_left
      · simp only [Act.put, List.setIfInBounds_toArray, List.set_cons_zero, List.set_cons_succ, i64_w, i32_w]
        rfl
      refine pure_ (i := 10) (N := some 57) (v := ?_) (a' := ?_) #[true, true, true, true, false, true, false, false, false, false, true, false, false, false, false, false, false, false, false] rfl rfl (by kernel_rfl) (fun _ _ _ h => h) (Or.inl ⟨by rfl, ?_⟩) ?_ ?_
      rotate_left
      · intro w'
        go_simp
        with_reducible rfl
      rotate_left
      · simp only [Act.put, List.setIfInBounds_toArray, List.set_cons_zero, List.set_cons_succ, i64_w, i32_w]
        rfl
      refine pure_ (i := 11) (N := some 58) (v := ?_) (a' := ?_) #[true, true, true, true, false, true, false, false, false, false, true, true, false, false, false, false, false, false, false] rfl rfl (by kernel_rfl) (fun _ _ _ h => h) (Or.inl ⟨by rfl, ?_⟩) ?_ ?_
      rotate_left
      · intro w'
        go_simp
        with_reducible rfl
      rotate_left
      · simp only [Act.put, List.setIfInBounds_toArray, List.set_cons_zero, List.set_cons_succ, i64_w, i32_w]
        rfl
      refine pure_ (i := 12) (N := some 59) (v := ?_) (a' := ?_) #[true, true, true, true, false, true, false, false, false, false, true, true, true, false, false, false, false, false, false] rfl rfl (by kernel_rfl) (fun _ _ _ h => h) (Or.inl ⟨by rfl, ?_⟩) ?_ ?_
      rotate_left
      · intro w'
        go_simp
        with_reducible rfl
      rotate_left
      · simp only [Act.put, List.setIfInBounds_toArray, List.set_cons_zero, List.set_cons_succ, i64_w, i32_w]
        rfl
      refine pure_ (i := 14) (N := some 61) (v := ?_) (a' := ?_) #[true, true, true, true, false, true, false, false, false, false, true, true, true, false, true, false, false, false, false] rfl rfl (by kernel_rfl) (fun _ _ _ h => h) (Or.inl ⟨by rfl, ?_⟩) ?_ ?_
      rotate_left
      · intro w'
        go_simp
        with_reducible rfl
      rotate_left
      · simp only [Act.put, List.setIfInBounds_toArray, List.set_cons_zero, List.set_cons_succ, i64_w, i32_w]
        rfl
      refine take_ (i := 4) (N := some 51) (v := ?_) (a' := ?_) #[true, true, true, true, true, true, false, false, false, false, true, true, true, false, true, false, false, false, false] rfl rfl (by kernel_rfl) (fun _ _ _ h => h) (Or.inl ⟨by rfl, ?_⟩) hHeld ?_ ?_
      rotate_left
      · rintro w' ⟨s0, s1, s2⟩
        go_simp
        with_reducible rfl
      rotate_left
      · simp only [Act.put, List.setIfInBounds_toArray, List.set_cons_zero, List.set_cons_succ, i64_w, i32_w]
        rfl
      refine pure_ (i := 6) (N := some 53) (v := ?_) (a' := ?_) #[true, true, true, true, true, true, true, false, false, false, true, true, true, false, true, false, false, false, false] rfl rfl (by kernel_rfl) (fun _ _ _ h => h) (Or.inl ⟨by rfl, ?_⟩) ?_ ?_
      rotate_left
      · intro w'
        go_simp
        with_reducible rfl
      rotate_left
      · simp only [Act.put, List.setIfInBounds_toArray, List.set_cons_zero, List.set_cons_succ, i64_w, i32_w]
        rfl
      refine pure_ (i := 7) (N := some 54) (v := ?_) (a' := ?_) #[true, true, true, true, true, true, true, true, false, false, true, true, true, false, true, false, false, false, false] rfl rfl (by kernel_rfl) (fun _ _ _ h => h) (Or.inl ⟨by rfl, ?_⟩) ?_ ?_
      rotate_left
      · intro w'
        go_simp
        with_reducible rfl
      rotate_left
      · simp only [Act.put, List.setIfInBounds_toArray, List.set_cons_zero, List.set_cons_succ, i64_w, i32_w]
        rfl
      refine pure_ (i := 8) (N := some 55) (v := ?_) (a' := ?_) #[true, true, true, true, true, true, true, true, true, false, true, true, true, false, true, false, false, false, false] rfl rfl (by kernel_rfl) (fun _ _ _ h => h) (Or.inl ⟨by rfl, ?_⟩) ?_ ?_
      rotate_left
      · intro w'
        go_simp
        with_reducible rfl
      rotate_left
      · simp only [Act.put, List.setIfInBounds_toArray, List.set_cons_zero, List.set_cons_succ, i64_w, i32_w]
        rfl
      refine take_ (i := 9) (N := some 56) (v := ?_) (a' := ?_) #[true, true, true, true, true, true, true, true, true, true, true, true, true, false, true, false, false, false, false] rfl rfl (by kernel_rfl) (fun _ _ _ h => h) (Or.inl ⟨by rfl, ?_⟩) hHeld ?_ ?_
      rotate_left
      · rintro w' ⟨s0, s1, s2⟩
        go_simp
        with_reducible rfl
      rotate_left
      · simp only [Act.put, List.setIfInBounds_toArray, List.set_cons_zero, List.set_cons_succ, i64_w, i32_w]
        rfl
      refine take_ (i := 13) (N := some 60) (v := ?_) (a' := ?_) #[true, true, true, true, true, true, true, true, true, true, true, true, true, true, true, false, false, false, false] rfl rfl (by kernel_rfl) (fun _ _ _ h => h) (Or.inl ⟨by rfl, ?_⟩) hHeld ?_ ?_
      rotate_left
      · rintro w' ⟨s0, s1, s2⟩
        go_simp
        with_reducible rfl
      rotate_left
      · simp only [Act.put, List.setIfInBounds_toArray, List.set_cons_zero, List.set_cons_succ, i64_w, i32_w]
        rfl
      refine pure_ (i := 15) (N := some 62) (v := ?_) (a' := ?_) #[true, true, true, true, true, true, true, true, true, true, true, true, true, true, true, true, false, false, false] rfl rfl (by kernel_rfl) (fun _ _ _ h => h) (Or.inl ⟨by rfl, ?_⟩) ?_ ?_
      rotate_left
      · intro w'
        go_simp
        with_reducible rfl
      rotate_left
      · simp only [Act.put, List.setIfInBounds_toArray, List.set_cons_zero, List.set_cons_succ, i64_w, i32_w]
        rfl
      refine pure_ (i := 16) (N := some 63) (v := ?_) (a' := ?_) #[true, true, true, true, true, true, true, true, true, true, true, true, true, true, true, true, true, false, false] rfl rfl (by kernel_rfl) (fun _ _ _ h => h) (Or.inl ⟨by rfl, ?_⟩) ?_ ?_
      rotate_left
      · intro w'
        go_simp
        with_reducible rfl
      rotate_left
      · simp only [Act.put, List.setIfInBounds_toArray, List.set_cons_zero, List.set_cons_succ, i64_w, i32_w]
        rfl
      refine take_ (i := 17) (N := some 64) (v := ?_) (a' := ?_) #[true, true, true, true, true, true, true, true, true, true, true, true, true, true, true, true, true, true, false] rfl rfl (by kernel_rfl) (fun _ _ _ h => h) (Or.inl ⟨by rfl, ?_⟩) hHeld ?_ ?_
      rotate_left
      · rintro w' ⟨s0, s1, s2⟩
        go_simp
        with_reducible rfl
      rotate_left
      · simp only [Act.put, List.setIfInBounds_toArray, List.set_cons_zero, List.set_cons_succ, i64_w, i32_w]
        rfl
      refine last_ (i := 18) (N := some 65) #[true, true, true, true, true, true, true, true, true, true, true, true, true, true, true, true, true, true, true] rfl rfl (by kernel_rfl) (by decide) (fun K hK => ?_)
      refine goes_ Tryd.func32 (by kernel_rfl) rfl #[.pointer (some ⟨pc, 0, none⟩), .int .i64 (a : Int), .string z] (by rfl) rfl rfl (by simp only [List.map_toArray, List.map_cons, List.map_nil]; rfl) ?_
      with_reducible refine (HP.out _ (below_drew (Below.refl _ _))).mono ?_
      rintro e w7 ⟨rfl, ⟨D7, ho7, hm7⟩, hg7⟩
      refine ⟨_, rfl, ?_⟩
      refine hK.out _ _ ?_
      clear hK K
      refine norm_ (a' := ?_) ?_ ?_
      rotate_left
      · show Act.put _ (some 65) _ = _
        simp only [Act.put, List.setIfInBounds_toArray, List.set_cons_zero, List.set_cons_succ, i64_w, i32_w]
        rfl
      refine done_ (by kernel_rfl) ?_
      have hnx := Hnx.out
      have HK7 : Hid (w7.heap[pc]? = some (.cells #[.int .i64 (n : Int), .map (some Mc), .slice none 0 0] 58 (0, 0))) := Lib.hid ((hg7.block pc (blk_lt HKj.out) (fun e => by
        have e2 : pc = Mc := by injection e
        obtain ⟨es, ck, hM, _⟩ := ho7
        have hM0 := HMo.out
        obtain ⟨es0, ck0, hM0⟩ := hM0
        have := HKj.out
        rw [e2, hM0] at this; cases this)).trans HKj.out)
      have HO7 : Hid (∃ D, w7.ownsMap Tryd.prog 3 heldE Mc n D ∧ MapIs D n (cont (h.take (kept + r)))) := Lib.hid ⟨D7, ho7, hm7.congr HBk.out⟩
      have HB7 : Hid (Below W.heap.size W w7) := Lib.hid ((below_drew HBj.out).grown hg7 HBj.out.size (fun k hk => by injection hk with hk; rw [← hk]; exact HMc.out))
      clear hHeld ho7 hm7 hg7 q0 q2 c0 c1 c2 p1 p2
      go_wp2
      go_roundw
      case rel => exact ⟨r, wrap64 ((r : Int) - 1), Hlt.out.1, Hlt.out.2, by first | rfl | (rw [hnx]), by rw [hnx]; omega, ⟨HK7.out⟩, ⟨HO7.out⟩, ⟨HB7.out⟩⟩
      case measure => have h1 := Hlt.out; first | (rw [hnx]; simp [ixOf, Go.RowKit.intOf]; omega) | (simp [ixOf, Go.RowKit.intOf]; omega)
    · obtain rfl : q = k := by omega
      have hd : decide ((q : Int) ≤ x) = false := decide_eq_false (by omega)
      have HF : Hid (DkAt wr pc Mc (.slice none 0 0) n (h.take (kept + q)) (kept + q)) := Lib.hid (by
        obtain ⟨Dj, hoj, hmj⟩ := HOj.out
        refine ⟨HKj.out, ⟨Dj, hoj, hmj⟩, ?_, by rw [List.length_take]; have := Hk.out; omega, HD.out.good.take _, HNN.out⟩
        have : (h.take (kept + q)).length = kept + q := by rw [List.length_take]; have := Hk.out; omega
        rw [show logOf (h.take (kept + q)) (kept + q) = [] by unfold logOf; rw [this, Nat.sub_self]; rfl]
        exact Kd.R_nil _ _ _ _ _)
      clear hlt hkq hqm hx
      go_wp2
      go_ret2
      exact ⟨pc, Mc, rfl, HF.out, HPc.out, HMc.out, HBj.out⟩
end Go.Proofs.YteooldbdilkmeaaDoor.SC

namespace Go.Proofs.YteooldbdilkmeaaDoor.SC
open Go.RowKit Go.Maps Go.Proofs.YteooldbdilkmeaaDoorW.PrintWords Go.Proofs.YteooldbdilkmeaaDoorW.PrintLast Go.Proofs.YteooldbdilkmeaaDoorW.PrintMore
set_option linter.unusedVariables false
set_option linter.unusedSimpArgs false
theorem keys_calls (mb : Option Nat) (W : World) : Calls Tryd.prog 42 #[.map mb] W fun e w' => e = .returned (.func (.func 52) #[] #[.pointer (some ⟨W.heap.size, 0, none⟩)]) ∧ w' = W.alloc (.cells #[.map mb] 55) := (callsIn_wide (n := 5)).1 (Tryd.maps_Keys_in mb W)
def usedI (n : Nat) (f : Nat → ByteArray) : List Int := (used n f).map fun (i : Nat) => (i : Int)
theorem sorted_calls {W : World} {M n : Nat} {D : DataW Unit} {f : Nat → ByteArray} (ho : W.ownsMap Tryd.prog 3 heldE M n D) (hm : MapIs D n f) (hn : n ≤ 131072) :
    Calls Tryd.prog 41 #[.func (.func 52) #[] #[.pointer (some ⟨W.heap.size, 0, none⟩)]] (W.alloc (.cells #[.map (some M)] 55)) fun e w' => ∃ u, e = .returned u ∧ w'.ownsRow W.heap.size 3 1 u (usedI n f).length (nums .i64 (usedI n f)) ∧ Below W.heap.size W w' := by
  have hs := size_used Tryd.underlying3 ho hm
  have hle := used_le n f
  refine ((callsIn_wide (n := 5)).1 (Tryd.slices_Sorted_in M n D heldE W ho (by unfold maxLen; omega) (by omega))).mono fun e w' ⟨u, ss, he, hp, hrow, _, hb⟩ => ⟨u, he, ?_, ?_⟩
  · rw [sorted_used Tryd.underlying3 ho hm hp] at hrow
    have hl : ss.length = (usedI n f).length := by
      have h1 := hp.length_eq
      have h2 := (keys_used Tryd.underlying3 ho hm).length_eq
      rw [h1, ← h2]
      rfl
    rw [hl] at hrow
    refine own_weaken hrow ?_
    simp
  · exact (below_alloc (Below.refl _ _) _).trans (hb.mono (by simp))
set_option maxHeartbeats 1000000 in
set_option maxRecDepth 100000 in
theorem used_calls {W : World} {p M n kept : Nat} {v : Value} {h : Hist} (H : DkAt W p M v n h kept) :
    Calls Tryd.prog 26 #[.pointer (some ⟨p, 0, none⟩)] W fun e w' => ∃ u, e = .returned u ∧ w'.ownsRow W.heap.size 3 1 u (usedI n (cont h)).length (nums .i64 (usedI n (cont h))) ∧ Below W.heap.size W w' := by
  have HD := Lib.hid H
  have HC := Lib.hid (check_calls H 0)
  rw [show chk n 0 = 0 from if_pos (by have := H.nn; omega)] at HC
  clear H
  go_enter Tryd.func26, Tryd.ntmps26
  go_wp2_with fail
  refine HC.out.mono ?_; rintro e w1 ⟨rfl, hb1⟩
  have HD1 := Lib.hid (HD.out.below hb1 (Nat.le_refl _))
  have HB1 := Lib.hid hb1
  obtain ⟨c0, c1, c2⟩ := HD1.out.cells
  obtain ⟨D, ho, hmi⟩ := HD1.out.map
  have HK := Lib.hid (keys_calls (some M) w1)
  have HS := Lib.hid (sorted_calls ho hmi HD.out.nn.2)
  clear hb1 ho hmi HC
  go_wp2_with fail
  refine HK.out.mono ?_; rintro e w2 ⟨rfl, rfl⟩
  go_wp2_with fail
  refine HS.out.mono ?_; rintro e w3 ⟨u, rfl, hu, hb3⟩
  have HU := Lib.hid hu
  have HB3 := Lib.hid (below_step HB1.out hb3)
  clear hu hb3 c0 c1 c2
  go_wp2
  go_ret
  exact ⟨_, rfl, own_weaken HU.out HB1.out.size, HB3.out⟩
end Go.Proofs.YteooldbdilkmeaaDoor.SC

namespace Go.Proofs.YteooldbdilkmeaaDoor.SC
open Go.RowKit Go.Maps Go.Proofs.YteooldbdilkmeaaDoorW.PrintWords Go.Proofs.YteooldbdilkmeaaDoorW.PrintLast Go.Proofs.YteooldbdilkmeaaDoorW.PrintMore
set_option linter.unusedVariables false
set_option linter.unusedSimpArgs false
theorem dnil_eq (W : World) : (binOp .eql 23 (.pointer none) (.pointer none)).run Tryd.prog W = .ok (.bool true) W := by go_simp
theorem dnil_ne (W : World) : (binOp .neq 23 (.pointer none) (.pointer none)).run Tryd.prog W = .ok (.bool false) W := by go_simp
set_option maxRecDepth 100000 in
theorem no_check (i : Int) (W : World) : Calls Tryd.prog 28 #[.pointer none, .int .i64 i] W fun e w' => e = .returned (.int .i64 1) ∧ Below W.heap.size W w' := by
  go_enter Tryd.func28, Tryd.ntmps28
  go_wp2
  go_ret
  exact ⟨rfl, Below.refl _ _⟩
def Empty (W : World) (g : Nat) : Prop := W.heap[g]? = some (.cells #[.int .i64 0, .map none, .slice none 0 0] 58 (0, 0))
theorem Empty.below {W V : World} {g : Nat} (h : Empty W g) (hb : Below W.heap.size W V) : Empty V g := blk_below h hb
set_option maxRecDepth 100000 in
theorem em_check {W : World} {g : Nat} (h : Empty W g) (i : Int) : Calls Tryd.prog 28 #[.pointer (some ⟨g, 0, none⟩), .int .i64 i] W fun e w' => e = .returned (.int .i64 1) ∧ Below W.heap.size W w' := by
  have c1 : W.cell? ⟨g, 1, none⟩ = some (.map none) := blk_cell h 1
  have hmn : ∀ V : World, (binOp .eql 55 (.map none) (.map none)).run Tryd.prog V = .ok (.bool true) V := fun V => map_nil (W := V) none
  go_enter Tryd.func28, Tryd.ntmps28
  go_wp2
  go_ret
  exact ⟨rfl, Below.refl _ _⟩
theorem no_read (i : Int) (W : World) : Calls Tryd.prog 10 #[.pointer none, .int .i64 i] W fun e w' => e = .returned (.tuple #[.string E0, .int .i64 1]) ∧ Below W.heap.size W w' := by
  have HC := Lib.hid (no_check i W)
  go_enter Tryd.func10, Tryd.ntmps10
  go_wp2_with fail
  refine HC.out.mono ?_; rintro e w1 ⟨rfl, hb1⟩
  go_wp2
  go_ret2
  exact ⟨rfl, hb1⟩
theorem no_write (i : Int) (s : ByteArray) (W : World) : Calls Tryd.prog 12 #[.pointer none, .int .i64 i, .string s] W fun e w' => e = .returned (.int .i64 1) ∧ Below W.heap.size W w' := by
  have HC := Lib.hid (no_check i W)
  go_enter Tryd.func12, Tryd.ntmps12
  go_wp2_with fail
  refine HC.out.mono ?_; rintro e w1 ⟨rfl, hb1⟩
  go_wp2
  go_ret
  exact ⟨rfl, hb1⟩
theorem no_copy (W : World) : Calls Tryd.prog 17 #[.pointer none] W fun e w' => e = .returned (.pointer none) ∧ Below W.heap.size W w' := by
  have HC := Lib.hid (no_check 0 W)
  go_enter Tryd.func17, Tryd.ntmps17
  go_wp2_with fail
  refine HC.out.mono ?_; rintro e w1 ⟨rfl, hb1⟩
  go_wp2
  go_ret
  exact ⟨rfl, hb1⟩
theorem em_cut {W : World} {g : Nat} (h : Empty W g) (k : Int) : Calls Tryd.prog 16 #[.pointer (some ⟨g, 0, none⟩), .int .i64 k] W fun e w' => e = .returned (.tuple #[.pointer none, .int .i64 1]) ∧ Below W.heap.size W w' := by
  have HC := Lib.hid (em_check h 0)
  go_enter Tryd.func16, Tryd.ntmps16
  go_wp2_with fail
  refine HC.out.mono ?_; rintro e w1 ⟨rfl, hb1⟩
  go_wp2
  go_ret2
  exact ⟨rfl, hb1⟩
theorem em_used {W : World} {g : Nat} (h : Empty W g) : Calls Tryd.prog 26 #[.pointer (some ⟨g, 0, none⟩)] W fun e w' => e = .returned (.slice none 0 0) ∧ Below W.heap.size W w' := by
  have HC := Lib.hid (em_check h 0)
  go_enter Tryd.func26, Tryd.ntmps26
  go_wp2_with fail
  refine HC.out.mono ?_; rintro e w1 ⟨rfl, hb1⟩
  go_wp2
  go_ret
  exact ⟨rfl, hb1⟩
theorem no_mark (W : World) : Calls Tryd.prog 21 #[.pointer none] W fun e w' => e = .returned (.tuple #[]) ∧ Below W.heap.size W w' := by
  have hn := dnil_ne
  go_enter Tryd.func21, Tryd.ntmps21
  go_wp2
  go_end0
  exact ⟨rfl, Below.refl _ _⟩
theorem no_len (W : World) : Calls Tryd.prog 27 #[.pointer none] W fun e w' => e = .returned (.int .i64 0) ∧ Below W.heap.size W w' := by
  have hn := dnil_eq
  go_enter Tryd.func27, Tryd.ntmps27
  go_wp2
  go_ret
  exact ⟨rfl, Below.refl _ _⟩
theorem no_writes (W : World) : Calls Tryd.prog 13 #[.pointer none] W fun e w' => e = .returned (.int .i64 0) ∧ Below W.heap.size W w' := by
  have hn := dnil_eq
  go_enter Tryd.func13, Tryd.ntmps13
  go_wp2
  go_ret
  exact ⟨rfl, Below.refl _ _⟩
end Go.Proofs.YteooldbdilkmeaaDoor.SC

namespace Go.Proofs.YteooldbdilkmeaaDoor.SC
open Go.RowKit Go.Maps Go.Proofs.YteooldbdilkmeaaDoorW.PrintWords Go.Proofs.YteooldbdilkmeaaDoorW.PrintLast Go.Proofs.YteooldbdilkmeaaDoorW.PrintMore
set_option linter.unusedVariables false
set_option linter.unusedSimpArgs false
def byteAt (s : ByteArray) (j : Nat) : Nat := (s.data.toList.getD j 0).toNat
theorem index_str (s : ByteArray) (j : Nat) (hj : j < s.size) (V : World) : (Instr.index 9 (.string s) (.int .i64 (j : Int))).run Tryd.prog V = .ok (.int .u8 ((byteAt s j : Nat) : Int)) V := by
  rw [run_index_string V 9 s .i64 (j : Int) Tryd.underlying9, dif_pos (by omega)]
  congr 2
  unfold byteAt
  rw [List.getD_eq_getElem?_getD, List.getElem?_eq_getElem (by rw [← size_toL]; exact hj)]
  simp
  rfl
theorem byteAt_get (s : ByteArray) (j : Nat) (h : j < s.size) : byteAt s j = (s[j]'h).toNat := by
  unfold byteAt
  rw [List.getD_eq_getElem?_getD, List.getElem?_eq_getElem (by rw [← size_toL]; exact h)]
  simp
  rfl
theorem full_at (s : ByteArray) (hs : s.size ≤ 512) (j : Nat) (h : s.size ≤ j) : byteAt (full s) j = 0 := by
  unfold byteAt
  rw [full_toL, List.getD_eq_getElem?_getD, List.getElem?_append_right (by rw [← size_toL]; exact h), List.getElem?_replicate]
  split <;> rfl
theorem full_in (s : ByteArray) (j : Nat) (h : j < s.size) : byteAt (full s) j = byteAt s j := by
  unfold byteAt
  rw [full_toL, List.getD_eq_getElem?_getD, List.getElem?_append_left (by rw [← size_toL]; exact h), List.getD_eq_getElem?_getD]
theorem one_a : cont ([] ++ [(3, trim ⟨#[97]⟩)]) 3 = ⟨#[97]⟩ := by decide +kernel
set_option maxHeartbeats 2000000 in
set_option maxRecDepth 100000 in
theorem works20 (W : World) : Calls Tryd.prog 11 #[] W fun e w' => e = .returned (.bool true) ∧ Below W.heap.size W w' := by
  have HNw := Lib.hid (new_calls 256 (by decide) W)
  obtain ⟨Sa, hSa⟩ : ∃ x, full (⟨#[97]⟩ : ByteArray) = x := ⟨_, rfl⟩
  have hsz : Sa.size = 512 := by rw [← hSa]; exact full_size _ (by decide)
  have hix : ∀ h : 0 < Sa.size, (Sa[0]'h).toNat = 97 := fun h => by rw [← byteAt_get, ← hSa, full_in _ 0 (by decide)]; rfl
  obtain ⟨Sz, hSz⟩ : ∃ x, full E0 = x := ⟨_, rfl⟩
  have hsz2 : Sz.size = 512 := by rw [← hSz]; exact full_size _ (by decide)
  have hix2 : ∀ h : 0 < Sz.size, (Sz[0]'h).toNat = 0 := fun h => by rw [← byteAt_get, ← hSz, full_at _ (by decide) 0 (by decide)]
  have hp2 : 0 < Sz.size := by rw [hsz2]; decide
  have hp1 : 0 < Sa.size := by rw [hsz]; decide
  have hne : ((Sa.size : Int) != 512) = false := by rw [hsz]; rfl
  have Hix := Lib.hid hix
  have Hix2 := Lib.hid hix2
  have HSa := Lib.hid hSa
  have HSz := Lib.hid hSz
  have Hne := Lib.hid hne
  clear hix hix2 hsz hsz2 hSa hSz hne
  go_enter Tryd.func11, Tryd.ntmps11
  go_wp2_with fail
  refine HNw.out.mono ?_; rintro e w1 ⟨rfl, hd1, hb1⟩
  obtain ⟨M, hM⟩ : ∃ x, W.heap.size = x := ⟨_, rfl⟩
  obtain ⟨p, hp⟩ : ∃ x, M + 1 = x := ⟨_, rfl⟩
  have HM := Lib.hid hM
  have Hp := Lib.hid hp
  rw [hM, hp] at hd1
  rw [hM, hp]
  have HD1 := Lib.hid hd1
  have HB1 := Lib.hid hb1
  have HWr := Lib.hid (write_calls HD1.out 3 (by decide) ⟨#[97]⟩ (by decide) (by decide))
  clear hd1 hb1 hM hp
  go_wp2_with fail
  refine HWr.out.mono ?_; rintro e w2 ⟨rfl, ⟨v2, hd2, hmv2⟩, ho2⟩
  have HC2 := Lib.hid one_a
  obtain ⟨h1, hh1⟩ : ∃ x, (([] : Hist) ++ [(3, trim ⟨#[97]⟩)]) = x := ⟨_, rfl⟩
  have hl1 : h1.length = 1 := by rw [← hh1]; rfl
  rw [hh1] at hd2 HC2
  have HD2 := Lib.hid hd2
  have HB2 : Hid (Below W.heap.size W w2) := Lib.hid (OnlyD.below HB1.out ho2 HB1.out.size (by have := HM.out; have := Hp.out; omega) (by have := HM.out; omega) (fun k hk => by cases hk))
  have HCt := Lib.hid (cut_calls HD2.out (by omega) 0 (by omega))
  clear hd2 hmv2 ho2 hh1 hl1
  go_wp2_with fail
  refine HCt.out.mono ?_; rintro e w3 ⟨pc, Mc, rfl, hd3, hpc, hMc, hb3⟩
  have HD3 := Lib.hid (HD2.out.below hb3 (Nat.le_refl _))
  have HE3 := Lib.hid hd3
  have HB3 := Lib.hid (below_step HB2.out hb3)
  have HR3 := Lib.hid (read_calls HD3.out 3 (by decide))
  rw [HC2.out, HSa.out] at HR3
  clear hd3 hpc hMc hb3
  go_wp2_with fail
  refine HR3.out.mono ?_; rintro e w4 ⟨rfl, hb4⟩
  have HE4 := Lib.hid (HE3.out.below hb4 (Nat.le_refl _))
  have HB4 := Lib.hid (below_step HB3.out hb4)
  have HR4 := Lib.hid (read_calls HE4.out 3 (by decide))
  rw [show cont (h1.take (0 + 0)) 3 = E0 from rfl, HSz.out] at HR4
  have hix := Hix.out
  have hne := Hne.out
  clear hb4
  go_wp2_with fail
  refine HR4.out.mono ?_; rintro e w5 ⟨rfl, hb5⟩
  have HB5 := Lib.hid (below_step HB4.out hb5)
  have hix2 := Hix2.out
  clear hb5
  go_wp2
  go_ret
  exact ⟨rfl, HB5.out⟩
end Go.Proofs.YteooldbdilkmeaaDoor.SC

namespace Go.Proofs.YteooldbdilkmeaaDoor.SC
open Go.RowKit Go.Maps Go.Proofs.YteooldbdilkmeaaDoorW.PrintWords Go.Proofs.YteooldbdilkmeaaDoorW.PrintLast Go.Proofs.YteooldbdilkmeaaDoorW.PrintMore
set_option linter.unusedVariables false
set_option linter.unusedSimpArgs false
def okw (n : Nat) (x : Wa) : Prop := 0 ≤ x.1 ∧ x.1 < n ∧ x.2.size ≤ 512
instance (n : Nat) (x : Wa) : Decidable (okw n x) := by unfold okw; infer_instance
theorem la_at {W : World} {A : Option Addr} {N : Nat} {l : List Wa} (h : kA.C W A N l) (i : Nat) (hi : i < N) : ∃ b o, A = some ⟨b, o, none⟩ ∧ W.cell? ⟨b, o + i * 2, none⟩ = some (.int .i64 (l.getD i (0, E0)).1) ∧ W.cell? ⟨b, o + i * 2 + 1, none⟩ = some (.string (l.getD i (0, E0)).2) := by
  obtain ⟨⟨b, o, sp⟩, cs, rfl, hcl, hK, hcell⟩ := Kd.C_get h (0, E0) (i : Int) (by omega) (by omega)
  obtain rfl := kA_open hK
  obtain ⟨ad0, cs0, had, _, hK0, hcell0⟩ := Kd.C_get h (0, E0) ((0 : Nat) : Int) (by omega) (by omega)
  obtain rfl := kA_open hK0
  injection had with had
  subst had
  obtain rfl : sp = none := by
    have := World.cell?_spot (hcell0 0 _ rfl)
    simpa [Addr.add] using this
  have h0 := hcell 0 _ rfl
  have h1 := hcell 1 _ rfl
  rw [Int.toNat_natCast] at h0 h1
  rw [Addr.add_mid] at h0 h1
  exact ⟨b, o, rfl, h0, h1⟩
end Go.Proofs.YteooldbdilkmeaaDoor.SC

namespace Go.Proofs.YteooldbdilkmeaaDoor.SC
open Go.RowKit Go.Maps Go.Proofs.YteooldbdilkmeaaDoorW.PrintWords Go.Proofs.YteooldbdilkmeaaDoorW.PrintLast Go.Proofs.YteooldbdilkmeaaDoorW.PrintMore
set_option linter.unusedVariables false
set_option linter.unusedSimpArgs false
end Go.Proofs.YteooldbdilkmeaaDoor.SC

namespace Go.Proofs.YteooldbdilkmeaaDoor.SC
open Go.RowKit Go.Maps Go.Proofs.YteooldbdilkmeaaDoorW.PrintWords Go.Proofs.YteooldbdilkmeaaDoorW.PrintLast Go.Proofs.YteooldbdilkmeaaDoorW.PrintMore
set_option linter.unusedVariables false
set_option linter.unusedSimpArgs false
end Go.Proofs.YteooldbdilkmeaaDoor.SC

namespace Go.Proofs.YteooldbdilkmeaaDoor.SC
open Go.RowKit Go.Maps Go.Proofs.YteooldbdilkmeaaDoorW.PrintWords Go.Proofs.YteooldbdilkmeaaDoorW.PrintLast Go.Proofs.YteooldbdilkmeaaDoorW.PrintMore
set_option linter.unusedVariables false
set_option linter.unusedSimpArgs false
theorem nx_small {i : Nat} (h : i ≤ 1000000) : wrap64 ((i : Int) + 1) = (i : Int) + 1 := by unfold wrap64; omega
theorem OwnA.at_ {W : World} {base : Nat} {ok : Nat → Prop} {A : Option Addr} {n c : Nat} {xs : List Wa} (h : kA.R 31 W base ok (.slice A n c) xs) (hn : xs.length = n) (i : Nat) (hi : i < n) : ∃ g, A = some ⟨g, 0, none⟩ ∧ W.cell? ⟨g, i * 2, none⟩ = some (.int .i64 (xs.getD i (0, E0)).1) ∧ W.cell? ⟨g, i * 2 + 1, none⟩ = some (.string (xs.getD i (0, E0)).2) := by
  obtain ⟨g, cap, hv, _⟩ := Kd.R_form h (by omega)
  have hA := (Value.slice.inj hv).1
  subst hA
  obtain ⟨_, _, hC⟩ := Kd.R_reads' h
  obtain ⟨b, o, hb, h0, h1⟩ := la_at hC i (by omega)
  injection hb with hb
  injection hb with hb ho
  subst hb; subst ho
  rw [Nat.zero_add] at h0 h1
  exact ⟨g, rfl, h0, h1⟩
end Go.Proofs.YteooldbdilkmeaaDoor.SC

namespace Go.Proofs.YteooldbdilkmeaaDoor.SC
open Go.RowKit Go.Maps Go.Proofs.YteooldbdilkmeaaDoorW.PrintWords Go.Proofs.YteooldbdilkmeaaDoorW.PrintLast Go.Proofs.YteooldbdilkmeaaDoorW.PrintMore
set_option linter.unusedVariables false
set_option linter.unusedSimpArgs false
def sa : ByteArray := ⟨#[97]⟩
def sb : ByteArray := ⟨#[98]⟩
def sc : ByteArray := ⟨#[99]⟩
def H4 : Hist := [(3, sa), (3, sb), (5, sc), (3, E0)]
theorem h4_is : (((([] ++ [(3, trim ⟨#[97]⟩)]) ++ [(3, trim ⟨#[98]⟩)]) ++ [(5, trim ⟨#[99]⟩)]) ++ [(3, trim ⟨#[]⟩)] : Hist) = H4 := by decide +kernel
theorem h4_3 : cont H4 3 = E0 := by decide +kernel
theorem h4_5 : cont H4 5 = sc := by decide +kernel
theorem h4_used : usedI 256 (cont H4) = [5] := by decide +kernel
theorem h4_cut : ∀ k < 3, (cont (H4.take (1 + k)) 3).size = 1 ∧ byteAt (cont (H4.take (1 + k)) 3) 0 = byteAt ⟨#[97, 98, 98]⟩ k := by decide +kernel
theorem infoU8k : (Tryd.prog.info? 5).map (fun i => (i.zero, i.size, i.bytes)) = some (some (.int .u8 0), 1, 1) := by kernel_rfl
theorem zeros_str (m : Nat) (hm : m ≤ 100000) (W : World) :
    (Instr.makeSlice 54 (.int .i64 (m : Int)) (.int .i64 (m : Int))).run Tryd.prog W = .ok (.slice (some ⟨W.heap.size, 0, none⟩) m m) (W.alloc (.cells (madeCells #[.int .u8 0] m) 5)) ∧
      (convert 54 9 (.slice (some ⟨W.heap.size, 0, none⟩) m m)).run Tryd.prog (W.alloc (.cells (madeCells #[.int .u8 0] m) 5)) = .ok (.string (zeros m)) (W.alloc (.cells (madeCells #[.int .u8 0] m) 5)) := by
  refine ⟨print_make (P := Tryd.prog) 54 5 .u8 1 Tryd.underlying54 infoU8k (by decide) m (by omega) W, ?_⟩
  have hown := own_made W W.heap.size 5 .u8 m (Nat.le_refl _) (by omega)
  have hcv := string_of_reads (c := m) (src := 54) Tryd.underlying54 Tryd.underlying5 Tryd.underlying9 (own_reads' hown)
  have hz : strOfNums (List.replicate m 0) = zeros m := by
    apply ext'
    unfold strOfNums
    simp [zeros]
  rw [hz] at hcv
  exact hcv
theorem moved_ge {V : World} {B : Nat} {v v' : Value} (hm : Moved V v v') (h : ∀ k, v.ownBlock = some k → B ≤ k) (hB : B ≤ V.heap.size) : ∀ k, v'.ownBlock = some k → B ≤ k := fun k hk => by
  rcases hm with e | e
  · exact h k (e ▸ hk)
  · exact Nat.le_trans hB (e k hk)
set_option maxHeartbeats 8000000 in
set_option maxRecDepth 100000 in
theorem knownLaw (W : World) : Calls Tryd.prog 8 #[] W fun e w' => e = .returned (.bool true) ∧ Below W.heap.size W w' := by
  have HNw := Lib.hid (new_calls 256 (by decide) W)
  have HWk := Lib.hid works20
  go_enter Tryd.func8, Tryd.ntmps8
  go_wp2_with fail
  refine HNw.out.mono ?_; rintro e w1 ⟨rfl, hd1, hb1⟩
  obtain ⟨M, hM⟩ : ∃ x, W.heap.size = x := ⟨_, rfl⟩
  obtain ⟨p, hp⟩ : ∃ x, M + 1 = x := ⟨_, rfl⟩
  have HPM : Hid (W.heap.size ≤ p ∧ W.heap.size ≤ M) := Lib.hid (by omega)
  rw [hM, hp] at hd1
  rw [hM, hp]
  have HD1 := Lib.hid hd1
  have HB1 := Lib.hid hb1
  have HW1 := Lib.hid (write_calls HD1.out 3 (by decide) ⟨#[97]⟩ (by decide) (by decide))
  clear hd1 hb1 hM hp HNw
  go_wp2_with fail
  refine HW1.out.mono ?_; rintro e w2 ⟨rfl, ⟨v2, hd2, hm2⟩, ho2⟩
  have HD2 := Lib.hid hd2
  have HV2 : Hid (∀ k, v2.ownBlock = some k → W.heap.size ≤ k) := Lib.hid (moved_ge hm2 (fun k hk => by cases hk) HB1.out.size)
  have HB2 := Lib.hid (OnlyD.below HB1.out ho2 HB1.out.size HPM.out.1 HPM.out.2 (fun k hk => by cases hk))
  have HMk := Lib.hid (mark_calls HD2.out)
  clear hd2 hm2 ho2 HW1
  go_wp2_with fail
  refine HMk.out.mono ?_; rintro e w3 ⟨rfl, hd3, ho3⟩
  have HD3 := Lib.hid hd3
  have HB3 := Lib.hid (OnlyD.below HB2.out ho3 HB2.out.size HPM.out.1 HPM.out.2 HV2.out)
  have HW3 := Lib.hid (write_calls HD3.out 3 (by decide) ⟨#[98]⟩ (by decide) (by decide))
  clear hd3 ho3 HMk
  go_wp2_with fail
  refine HW3.out.mono ?_; rintro e w4 ⟨rfl, ⟨v4, hd4, hm4⟩, ho4⟩
  have HD4 := Lib.hid hd4
  have HV4 : Hid (∀ k, v4.ownBlock = some k → W.heap.size ≤ k) := Lib.hid (moved_ge hm4 (fun k hk => by cases hk) HB3.out.size)
  have HB4 := Lib.hid (OnlyD.below HB3.out ho4 HB3.out.size HPM.out.1 HPM.out.2 (fun k hk => by cases hk))
  have HW4 := Lib.hid (write_calls HD4.out 5 (by decide) ⟨#[99]⟩ (by decide) (by decide))
  clear hd4 hm4 ho4 HW3
  go_wp2_with fail
  refine HW4.out.mono ?_; rintro e w5 ⟨rfl, ⟨v5, hd5, hm5⟩, ho5⟩
  have HD5 := Lib.hid hd5
  have HV5 : Hid (∀ k, v5.ownBlock = some k → W.heap.size ≤ k) := Lib.hid (moved_ge hm5 HV4.out HB4.out.size)
  have HB5 := Lib.hid (OnlyD.below HB4.out ho5 HB4.out.size HPM.out.1 HPM.out.2 HV4.out)
  have HW5 := Lib.hid (write_calls HD5.out 3 (by decide) ⟨#[]⟩ (by decide) (by decide))
  rw [h4_is, show (([] ++ [(3, trim (⟨#[97]⟩ : ByteArray))] : Hist)).length = 1 from rfl] at HW5
  clear hd5 hm5 ho5 HW4
  go_wp2_with fail
  refine HW5.out.mono ?_; rintro e w6 ⟨rfl, ⟨v6, hd6, hm6⟩, ho6⟩
  have HD6 := Lib.hid hd6
  have HV6 : Hid (∀ k, v6.ownBlock = some k → W.heap.size ≤ k) := Lib.hid (moved_ge hm6 HV5.out HB5.out.size)
  have HB6 := Lib.hid (OnlyD.below HB5.out ho6 HB5.out.size HPM.out.1 HPM.out.2 HV5.out)
  have HR6 := Lib.hid (read_calls HD6.out 3 (by decide))
  rw [h4_3] at HR6
  clear hd6 hm6 ho6 HW5 HD1 HD2 HD3 HD4 HD5 HB1 HB2 HB3 HB4 HB5 HV2 HV4 HV5
  go_wp2_with fail
  refine HR6.out.mono ?_; rintro e w7 ⟨rfl, hb7⟩
  have HD7 := Lib.hid (HD6.out.below hb7 (Nat.le_refl _))
  have HB7 := Lib.hid (below_step HB6.out hb7)
  have HR7 := Lib.hid (read_calls HD7.out 5 (by decide))
  rw [h4_5] at HR7
  clear hb7 HR6 HD6 HB6
  go_wp2_with fail
  refine HR7.out.mono ?_; rintro e w8 ⟨rfl, hb8⟩
  have HD8 := Lib.hid (HD7.out.below hb8 (Nat.le_refl _))
  have HB8 := Lib.hid (below_step HB7.out hb8)
  have HU8 := Lib.hid (used_calls HD8.out)
  rw [h4_used] at HU8
  clear hb8 HR7 HD7 HB7
  go_wp2_with fail
  refine HU8.out.mono ?_; rintro e w9 ⟨u, rfl, hu, hb9⟩
  have HD9 := Lib.hid (HD8.out.below hb9 (Nat.le_refl _))
  have HB9 := Lib.hid (below_step HB8.out hb9)
  have HUr := Lib.hid hu
  have HL9 := Lib.hid (log_calls HD9.out (by decide))
  clear hu hb9 HU8 HD8 HB8
  obtain ⟨Gu, cu, rfl, _, _⟩ := HUr.out.form (by decide)
  go_wp2_with fail
  refine HL9.out.mono ?_; rintro e w10 ⟨lg, rfl, hlg, hb10⟩
  have HD10 := Lib.hid (HD9.out.below hb10 (Nat.le_refl _))
  have HB10 := Lib.hid (below_step HB9.out hb10)
  have HU10 := Lib.hid (pw_own_below HUr.out hb10)
  obtain ⟨Gl, cl, rfl, _⟩ := Kd.R_form hlg (by decide)
  rw [show (logA (H4.drop 1)).length = 3 from rfl] at hlg
  rw [show (logA (H4.drop 1)).length = 3 from rfl]
  have HLg := Lib.hid hlg
  clear hlg hb10 HUr HL9 HD9 HB9
  have HBa := Lib.hid (below_alloc (Below.refl w10.heap.size w10) (.cells (madeCells #[.int .u8 0] 512) 5))
  obtain ⟨hmk, hcv⟩ := zeros_str 512 (by decide) w10
  rw [show (((512 : Nat)) : Int) = 512 from rfl] at hmk
  obtain ⟨W11, hW11⟩ : ∃ V, w10.alloc (.cells (madeCells #[.int .u8 0] 512) 5) = V := ⟨_, rfl⟩
  rw [hW11] at hmk hcv HBa
  have hu0 : W11.cell? ⟨Gu, 0, none⟩ = some (.int .i64 5) := (own_at (pw_own_below HU10.out HBa.out) 0 (by decide) (by decide)).1
  have HL11 := Lib.hid (Kd.R_below HLg.out HBa.out)
  obtain ⟨_, hg0, l0, _⟩ := OwnA.at_ HL11.out rfl 0 (by decide)
  injection hg0 with hg0
  injection hg0 with hg0
  subst hg0
  obtain ⟨_, hg1, l1, _⟩ := OwnA.at_ HL11.out rfl 1 (by decide)
  injection hg1 with hg1
  injection hg1 with hg1
  subst hg1
  obtain ⟨_, hg2, l2, _⟩ := OwnA.at_ HL11.out rfl 2 (by decide)
  injection hg2 with hg2
  injection hg2 with hg2
  subst hg2
  have e0 : ((logA (H4.drop 1)).getD 0 (0, E0)).1 = 3 := rfl
  have e1 : ((logA (H4.drop 1)).getD 1 (0, E0)).1 = 5 := rfl
  have e2 : ((logA (H4.drop 1)).getD 2 (0, E0)).1 = 3 := rfl
  rw [e0] at l0
  rw [e1] at l1
  rw [e2] at l2
  have HE0 : Hid (full E0 = zeros 512) := Lib.hid full_zeros
  rw [full_zeros]
  obtain ⟨Z, hZ⟩ : ∃ Z, zeros 512 = Z := ⟨_, rfl⟩
  rw [hZ] at hcv
  rw [hZ]
  obtain ⟨S5, hS5⟩ : ∃ S, full sc = S := ⟨_, rfl⟩
  have h5z : S5.size = 512 := by rw [← hS5]; exact full_size _ (by decide)
  have h5n : ((S5.size : Int) != 512) = false := by rw [h5z]; rfl
  have h5p : 0 < S5.size := by rw [h5z]; decide
  have h50 : ∀ h : 0 < S5.size, (S5[0]'h).toNat = 99 := fun h => by rw [← byteAt_get, ← hS5, full_in _ 0 (by decide)]; rfl
  rw [hS5]
  clear e0 e1 e2 hZ hS5 h5z hW11
  have HD11 := Lib.hid (HD10.out.below HBa.out (Nat.le_refl _))
  have HB11 := Lib.hid (below_step HB10.out HBa.out)
  clear HBa HU10 HLg HL11 HD10 HB10
  go_wp2_with fail
  clear hmk hcv hu0 l0 l1 l2 h5n h5p h50
  go_loopw [9] (fun iv V => ∃ k : Nat, k ≤ 3 ∧ iv = .int .i64 (k : Int) ∧ Aside0 (DkAt V p M v6 256 H4 1) ∧ Aside0 (Below W.heap.size W V)) (fun iv _ => 3 - (ixOf iv).toNat)
  case atStart => exact ⟨0, by decide, rfl, ⟨HD11.out⟩, ⟨HB11.out⟩⟩
  case round =>
    obtain ⟨k, hk, rfl, ⟨hdk⟩, ⟨hb⟩⟩ := hrel
    have HDk := Lib.hid hdk
    have HBk := Lib.hid hb
    clear hdk hb HD11 HB11
    by_cases hlt : k < 3
    · have hd := decide_eq_true (show (k : Int) < 3 by omega)
      have hdn := decide_eq_true hlt
      have HCt := Lib.hid (cut_calls HDk.out (by decide) k (by show 1 + k ≤ 4; omega))
      obtain ⟨hcs, hcb⟩ := h4_cut k hlt
      have hix := index_str ⟨#[97, 98, 98]⟩ k (by show k < 3; exact hlt)
      rw [← hcb] at hix
      have HSx : Hid (∃ S, full (cont (H4.take (1 + k)) 3) = S ∧ 1 < S.size ∧ byteAt S 0 = byteAt (cont (H4.take (1 + k)) 3) 0 ∧ byteAt S 1 = 0) := Lib.hid ⟨_, rfl, by rw [full_size _ (by omega)]; decide, full_in _ 0 (by omega), full_at _ (by omega) 1 (by omega)⟩
      obtain ⟨S, hS, hs1, hb0, hb1⟩ := HSx.out
      obtain ⟨x, hx⟩ : ∃ x, byteAt (cont (H4.take (1 + k)) 3) 0 = x := ⟨_, rfl⟩
      rw [hx] at hix hb0
      have hS0 : ∀ h : 0 < S.size, (S[0]'h).toNat = x := fun h => by rw [← byteAt_get]; exact hb0
      have hS1 : ∀ h : 1 < S.size, (S[1]'h).toNat = 0 := fun h => by rw [← byteAt_get]; exact hb1
      have hp0 : 0 < S.size := by omega
      have HS := Lib.hid hS
      have hnx := nx_small (i := k) (by omega)
      have Hlt := Lib.hid hlt
      have Hnx := Lib.hid hnx
      have HS01 := Lib.hid (And.intro hS0 (And.intro hS1 (And.intro hp0 (And.intro hs1 hix))))
      clear hcs hcb hS hb0 hb1 hx hlt hk hnx HSx hS0 hS1 hp0 hs1 hix
      go_wp2_with fail
      refine HCt.out.mono ?_; rintro e w12 ⟨pc, Mc, rfl, hdc, _, _, hb12⟩
      have HDc := Lib.hid (HDk.out.below hb12 (Nat.le_refl _))
      have HB12 := Lib.hid (below_step HBk.out hb12)
      have HRc := Lib.hid (read_calls hdc 3 (by decide))
      rw [HS.out] at HRc
      clear hdc hb12 HCt
      go_wp2_with fail
      refine HRc.out.mono ?_; rintro e w13 ⟨rfl, hb13⟩
      have HDe := Lib.hid (HDc.out.below hb13 (Nat.le_refl _))
      have HB13 := Lib.hid (below_step HB12.out hb13)
      clear hb13 HRc
      obtain ⟨hS0, hS1, hp0, hs1, hix⟩ := HS01.out
      have hs1i : ((1 : Int) < (S.size : Int)) = True := eq_true (by clear hix; omega)
      go_upto_region 20 with fail
      refine start_ (n := 10) (S := fun w' => True) (ds := []) #[false, false, false, false, false, false, false, false, false, false] (by kernel_rfl) rfl rfl trivial (fun hHeld => ?_)
      refine pure_ (i := 0) (N := some 140) (v := ?_) (a' := ?_) #[true, false, false, false, false, false, false, false, false, false] rfl rfl (by kernel_rfl) (fun _ _ _ h => h) (Or.inl ⟨by rfl, ?_⟩) ?_ ?_
      rotate_left
      · intro w'
        go_simp
        with_reducible rfl
      rotate_left
      · simp only [Act.put, List.setIfInBounds_toArray, List.set_cons_zero, List.set_cons_succ, i64_w, i32_w]
        rfl
      refine pure_ (i := 2) (N := some 142) (v := ?_) (a' := ?_) #[true, false, true, false, false, false, false, false, false, false] rfl rfl (by kernel_rfl) (fun _ _ _ h => h) (Or.inl ⟨by rfl, ?_⟩) ?_ ?_
      rotate_left
      · intro w'
        go_simp
        with_reducible rfl
      rotate_left
      · simp only [Act.put, List.setIfInBounds_toArray, List.set_cons_zero, List.set_cons_succ, i64_w, i32_w]
        rfl
      refine take_ (i := 1) (N := some 141) (v := ?_) (a' := ?_) #[true, true, true, false, false, false, false, false, false, false] rfl rfl (by kernel_rfl) (fun _ _ _ h => h) (Or.inl ⟨by rfl, ?_⟩) hHeld ?_ ?_
      rotate_left
      · intro w' _
        go_simp
        with_reducible rfl
      rotate_left
      · simp only [Act.put, List.setIfInBounds_toArray, List.set_cons_zero, List.set_cons_succ, i64_w, i32_w]
        rfl
      refine take_ (i := 3) (N := some 143) (v := ?_) (a' := ?_) #[true, true, true, true, false, false, false, false, false, false] rfl rfl (by kernel_rfl) (fun _ _ _ h => h) (Or.inl ⟨by rfl, ?_⟩) hHeld ?_ ?_
      rotate_left
      · intro w' _
        go_simp
        with_reducible rfl
      rotate_left
      · simp only [Act.put, List.setIfInBounds_toArray, List.set_cons_zero, List.set_cons_succ, i64_w, i32_w]
        rfl
      refine pure_ (i := 4) (N := some 144) (v := ?_) (a' := ?_) #[true, true, true, true, true, false, false, false, false, false] rfl rfl (by kernel_rfl) (fun _ _ _ h => h) (Or.inl ⟨by rfl, ?_⟩) ?_ ?_
      rotate_left
      · intro w'
        go_simp
        with_reducible rfl
      rotate_left
      · simp only [Act.put, List.setIfInBounds_toArray, List.set_cons_zero, List.set_cons_succ, i64_w, i32_w]
        rfl
      refine pure_ (i := 5) (N := some 145) (v := ?_) (a' := ?_) #[true, true, true, true, true, true, false, false, false, false] rfl rfl (by kernel_rfl) (fun _ _ _ h => h) (Or.inl ⟨by rfl, ?_⟩) ?_ ?_
      rotate_left
      · intro w'
        go_simp
        with_reducible rfl
      rotate_left
      · simp only [Act.put, List.setIfInBounds_toArray, List.set_cons_zero, List.set_cons_succ, i64_w, i32_w]
        rfl
      refine pure_ (i := 6) (N := some 146) (v := ?_) (a' := ?_) #[true, true, true, true, true, true, true, false, false, false] rfl rfl (by kernel_rfl) (fun _ _ _ h => h) (Or.inl ⟨by rfl, ?_⟩) ?_ ?_
      rotate_left
      · intro w'
        go_simp
        with_reducible rfl
      rotate_left
      · simp only [Act.put, List.setIfInBounds_toArray, List.set_cons_zero, List.set_cons_succ, i64_w, i32_w]
        rfl
      refine take_ (i := 7) (N := some 147) (v := ?_) (a' := ?_) #[true, true, true, true, true, true, true, true, false, false] rfl rfl (by kernel_rfl) (fun _ _ _ h => h) (Or.inl ⟨by rfl, ?_⟩) hHeld ?_ ?_
      rotate_left
      · intro w' _
        go_simp
        with_reducible rfl
      rotate_left
      · simp only [Act.put, List.setIfInBounds_toArray, List.set_cons_zero, List.set_cons_succ, i64_w, i32_w]
        rfl
      refine pure_ (i := 8) (N := some 148) (v := ?_) (a' := ?_) #[true, true, true, true, true, true, true, true, true, false] rfl rfl (by kernel_rfl) (fun _ _ _ h => h) (Or.inl ⟨by rfl, ?_⟩) ?_ ?_
      rotate_left
      · intro w'
        go_simp
        with_reducible rfl
      rotate_left
      · simp only [Act.put, List.setIfInBounds_toArray, List.set_cons_zero, List.set_cons_succ, i64_w, i32_w]
        rfl
      refine pure_ (i := 9) (N := some 149) (v := ?_) (a' := ?_) #[true, true, true, true, true, true, true, true, true, true] rfl rfl (by kernel_rfl) (fun _ _ _ h => h) (Or.inl ⟨by rfl, ?_⟩) ?_ ?_
      rotate_left
      · intro w'
        go_simp
        with_reducible rfl
      rotate_left
      · simp only [Act.put, List.setIfInBounds_toArray, List.set_cons_zero, List.set_cons_succ, i64_w, i32_w]
        rfl
      refine done_ (by kernel_rfl) ?_
      have hnx := Hnx.out
      clear hS0 hS1 hp0 hs1 hix hs1i
      have HDf : Hid (DkAt w13.drew p M v6 256 H4 1) := Lib.hid HDe.out.drew
      have HBf : Hid (Below W.heap.size W w13.drew) := Lib.hid (below_drew HB13.out)
      go_wp2
      go_roundw
      case rel => exact ⟨k + 1, Hlt.out, by first | rfl | (rw [hnx]; rfl), ⟨HDf.out⟩, ⟨HBf.out⟩⟩
      case measure => have h1 := Hlt.out; first | (rw [hnx]; simp [ixOf, Go.RowKit.intOf]; omega) | (simp [ixOf, Go.RowKit.intOf]; omega)
    · obtain rfl : k = 3 := by omega
      have hd := decide_eq_false (show ¬ ((3 : Nat) : Int) < 3 by decide)
      have HC1 := Lib.hid (cut_no HDk.out 4 (.inr (by decide)))
      clear hlt hk
      go_wp2_with fail
      refine HC1.out.mono ?_; rintro e a1 ⟨rfl, hb1⟩
      have HA1 := Lib.hid (HDk.out.below hb1 (Nat.le_refl _))
      have BA1 := Lib.hid (below_step HBk.out hb1)
      have HC2 := Lib.hid (cut_no HA1.out (-1) (.inl (by decide)))
      clear hb1 HC1
      go_wp2_with fail
      refine HC2.out.mono ?_; rintro e a2 ⟨rfl, hb2⟩
      have HA2 := Lib.hid (HA1.out.below hb2 (Nat.le_refl _))
      have BA2 := Lib.hid (below_step BA1.out hb2)
      have HC3 := Lib.hid (read_no HA2.out 256 (by decide))
      clear hb2 HC2 HA1 BA1
      go_wp2_with fail
      refine HC3.out.mono ?_; rintro e a3 ⟨rfl, hb3⟩
      have HA3 := Lib.hid (HA2.out.below hb3 (Nat.le_refl _))
      have BA3 := Lib.hid (below_step BA2.out hb3)
      have HC4 := Lib.hid (write_no HA3.out (-1) (by decide) ⟨#[]⟩)
      clear hb3 HC3 HA2 BA2
      go_wp2_with fail
      refine HC4.out.mono ?_; rintro e a4 ⟨rfl, hb4⟩
      have HA4 := Lib.hid (HA3.out.below hb4 (Nat.le_refl _))
      have BA4 := Lib.hid (below_step BA3.out hb4)
      obtain ⟨hmk, hcv⟩ := zeros_str 513 (by decide) a4
      rw [show (((513 : Nat)) : Int) = 513 from rfl] at hmk
      have HBz := Lib.hid (below_alloc (Below.refl a4.heap.size a4) (.cells (madeCells #[.int .u8 0] 513) 5))
      obtain ⟨a5, ha5⟩ : ∃ V, a4.alloc (.cells (madeCells #[.int .u8 0] 513) 5) = V := ⟨_, rfl⟩
      obtain ⟨Z2, hZ2⟩ : ∃ Z, zeros 513 = Z := ⟨_, rfl⟩
      rw [ha5] at hmk hcv HBz
      rw [hZ2] at hcv
      have HA5 := Lib.hid (HA4.out.below HBz.out (Nat.le_refl _))
      have BA5 := Lib.hid (below_step BA4.out HBz.out)
      have HC5 := Lib.hid (write_long HA5.out 0 (by decide) Z2 (by rw [← hZ2, size_toL, zeros_toL, List.length_replicate]; decide))
      clear hb4 HC4 HA3 BA3 ha5 hZ2 HBz
      go_wp2_with fail
      refine HC5.out.mono ?_; rintro e a6 ⟨rfl, hb6⟩
      have BA6 := Lib.hid (below_step BA5.out hb6)
      have HC6 := Lib.hid (new_no 255 (.inl (by decide)) a6)
      clear hb6 HC5 HA4 BA4 hmk hcv
      go_wp2_with fail
      refine HC6.out.mono ?_; rintro e a7 ⟨rfl, hb7⟩
      have BA7 := Lib.hid (below_step BA6.out hb7)
      have HC7 := Lib.hid (new_no 131073 (.inr (by decide)) a7)
      clear hb7 HC6 BA5 BA6
      go_wp2_with fail
      refine HC7.out.mono ?_; rintro e a8 ⟨rfl, hb8⟩
      have BA8 := Lib.hid (below_step BA7.out hb8)
      have HEm : Hid (Empty (a8.alloc (.cells #[.int .i64 0, .map none, .slice none 0 0] 58)) a8.heap.size) := Lib.hid (blk_new a8 _)
      have BA9 := Lib.hid (below_alloc BA8.out (.cells #[.int .i64 0, .map none, .slice none 0 0] 58))
      obtain ⟨g, hg⟩ : ∃ g, a8.heap.size = g := ⟨_, rfl⟩
      obtain ⟨a9, ha9⟩ : ∃ V, a8.alloc (.cells #[.int .i64 0, .map none, .slice none 0 0] 58) = V := ⟨_, rfl⟩
      have Hg := Lib.hid hg
      have Ha9 := Lib.hid ha9
      rw [hg, ha9] at HEm
      rw [ha9] at BA9
      have HC8 := Lib.hid (no_read 0 a9)
      clear hb8 HC7 BA7 BA8 hg ha9
      go_wp2_with fail
      rw [Hg.out, Ha9.out]
      refine HC8.out.mono ?_; rintro e a10 ⟨rfl, hb10⟩
      have BA10 := Lib.hid (below_step BA9.out hb10)
      have HE10 := Lib.hid (HEm.out.below hb10)
      have HC9 := Lib.hid (em_cut HE10.out 0)
      clear hb10 HC8 BA9 HEm
      go_wp2_with fail
      refine HC9.out.mono ?_; rintro e a11 ⟨rfl, hb11⟩
      have BA11 := Lib.hid (below_step BA10.out hb11)
      have HE11 := Lib.hid (HE10.out.below hb11)
      have HC10 := Lib.hid (no_mark a11)
      clear hb11 HC9 BA10 HE10
      go_wp2_with fail
      refine HC10.out.mono ?_; rintro e a12 ⟨rfl, hb12⟩
      have BA12 := Lib.hid (below_step BA11.out hb12)
      have HE12 := Lib.hid (HE11.out.below hb12)
      have HC11 := Lib.hid (no_write 0 ⟨#[]⟩ a12)
      clear hb12 HC10 BA11 HE11
      go_wp2_with fail
      refine HC11.out.mono ?_; rintro e a13 ⟨rfl, hb13⟩
      have BA13 := Lib.hid (below_step BA12.out hb13)
      have HE13 := Lib.hid (HE12.out.below hb13)
      have HC12 := Lib.hid (no_len a13)
      clear hb13 HC11 BA12 HE12
      go_wp2_with fail
      refine HC12.out.mono ?_; rintro e a14 ⟨rfl, hb14⟩
      have BA14 := Lib.hid (below_step BA13.out hb14)
      have HE14 := Lib.hid (HE13.out.below hb14)
      have HC13 := Lib.hid (no_writes a14)
      clear hb14 HC12 BA13 HE13
      go_wp2_with fail
      refine HC13.out.mono ?_; rintro e a15 ⟨rfl, hb15⟩
      have BA15 := Lib.hid (below_step BA14.out hb15)
      have HE15 := Lib.hid (HE14.out.below hb15)
      have HC14 := Lib.hid (no_copy a15)
      clear hb15 HC13 BA14 HE14
      go_wp2_with fail
      refine HC14.out.mono ?_; rintro e a16 ⟨rfl, hb16⟩
      have BA16 := Lib.hid (below_step BA15.out hb16)
      have HE16 := Lib.hid (HE15.out.below hb16)
      have HC15 := Lib.hid (em_used HE16.out)
      clear hb16 HC14 BA15 HE15
      go_wp2_with fail
      refine HC15.out.mono ?_; rintro e a17 ⟨rfl, hb17⟩
      have BA17 := Lib.hid (below_step BA16.out hb17)
      clear hb17 HC15 BA16 HE16
      go_wp2_with fail
      refine (HWk.out _).mono ?_; rintro e a18 ⟨rfl, hb18⟩
      have BA18 := Lib.hid (below_step BA17.out hb18)
      clear hb18
      go_wp2
      go_ret
      exact ⟨rfl, BA18.out⟩
end Go.Proofs.YteooldbdilkmeaaDoor.SC

namespace Go.Proofs.YteooldbdilkmeaaDoor.SC
open Go.ChangeShapes Go.WideShapes Go.Deep Go.RowKit Go.Proofs.YteooldbdilkmeaaDoorW.PrintWords Go.Proofs.YteooldbdilkmeaaDoorW.PrintLast Go.Proofs.YteooldbdilkmeaaDoorW.PrintMore
set_option linter.unusedVariables false
set_option maxRecDepth 100000
set_option linter.unusedSimpArgs false
section
variable {H : Type} {enc : TypeId × Value → H} {P : Program} {w : World} {base : Nat} {spare : Nat → Bool} {held : Bool}
end
end Go.Proofs.YteooldbdilkmeaaDoor.SC
