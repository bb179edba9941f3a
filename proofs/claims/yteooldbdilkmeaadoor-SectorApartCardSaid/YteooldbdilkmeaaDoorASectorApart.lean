/- The own texts that the statement SectorApart leans on: SecP, SecMap, SecW, SecRead, SecPut, SecWrite, SecLog, SecCut, SecCopy, SecWorks, SecWrit, SecAlike, SecLast, SecCuts, SecApart, SecArg. -/
import Derived.Lib.TrimByte
import Derived.Lib.Repeat
import Derived.Maps.OwnSet
import Derived.Maps.Range
import Derived.Lib.SlKeysI
import Derived.Test.YteooldbdilkmeaaDoorProg
import Derived.Test.YteooldbdilkmeaaDoorWLast
import Derived.Test.YteooldbdilkmeaaDoorWMore
import Derived.Lib.Hide
import Derived.Outline
import Derived.Deep.DeepCutAuto
import Derived.Shelf.SlMaps.Clone
import Derived.Test.YteooldbdilkmeaaDoorShelf
import Derived.Test.YteooldbdilkmeaaDoorIter
import Derived.Lib.SliceRun
import Derived.Deep.Slices
import Derived.Deep.Fields
import Derived.ChangeSame
import Derived.DataShut
import Derived.RowKit
import Derived.ChangeSlices
import Derived.OpenShut
import Derived.Lib.SmallJoins
namespace Go.Proofs.YteooldbdilkmeaaDoor.SC
set_option linter.unusedVariables false
set_option linter.unusedSimpArgs false
abbrev Hist := List (Nat × ByteArray)
def E0 : ByteArray := ByteArray.empty
def trim (s : ByteArray) : ByteArray := ⟨(Lib.trimRightB s.data.toList 0).toArray⟩
def zeros (n : Nat) : ByteArray := ⟨(List.replicate n (0 : UInt8)).toArray⟩
def full (s : ByteArray) : ByteArray := s ++ zeros (512 - s.size)
def Slim (s : ByteArray) : Prop := s.size ≤ 512 ∧ trim s = s
theorem dropW : ∀ (l : List UInt8), ∃ k, l = List.replicate k 0 ++ l.dropWhile (· == 0) ∧ (∀ b, (l.dropWhile (· == 0)).head? = some b → b ≠ 0)
  | [] => ⟨0, rfl, by simp⟩
  | b :: r => by
    by_cases h : b = 0
    · subst h
      obtain ⟨k, h1, h2⟩ := dropW r
      refine ⟨k + 1, ?_, ?_⟩
      · rw [List.dropWhile_cons_of_pos (by rfl), List.replicate_succ, List.cons_append, ← h1]
      · rw [List.dropWhile_cons_of_pos (by rfl)]; exact h2
    · refine ⟨0, ?_, ?_⟩
      · rw [List.dropWhile_cons_of_neg (by simpa using h)]; rfl
      · rw [List.dropWhile_cons_of_neg (by simpa using h)]
        intro c hc
        simp at hc
        rw [← hc]; exact h
theorem trimL_split (l : List UInt8) : ∃ k, l = Lib.trimRightB l 0 ++ List.replicate k 0 := by
  obtain ⟨k, h, _⟩ := dropW l.reverse
  refine ⟨k, ?_⟩
  have := congrArg List.reverse h
  rw [List.reverse_reverse, List.reverse_append, List.reverse_replicate] at this
  exact this
theorem dropW_rep (k : Nat) (l : List UInt8) : (List.replicate k 0 ++ l).dropWhile (· == 0) = l.dropWhile (· == 0) := by
  induction k with
  | zero => rfl
  | succ k ih => rw [List.replicate_succ, List.cons_append, List.dropWhile_cons_of_pos (by rfl), ih]
theorem trimL_zeros (l : List UInt8) (k : Nat) : Lib.trimRightB (l ++ List.replicate k 0) 0 = Lib.trimRightB l 0 := by
  unfold Lib.trimRightB
  rw [List.reverse_append, List.reverse_replicate, dropW_rep]
theorem trimL_trimL (l : List UInt8) : Lib.trimRightB (Lib.trimRightB l 0) 0 = Lib.trimRightB l 0 := by
  obtain ⟨k, h⟩ := trimL_split l
  have := trimL_zeros (Lib.trimRightB l 0) k
  rw [← h] at this
  exact this.symm
theorem ext' {a b : ByteArray} (h : a.data.toList = b.data.toList) : a = b := by
  cases a; cases b
  congr 1
  exact Array.toList_inj.1 h
theorem toL_append (a b : ByteArray) : (a ++ b).data.toList = a.data.toList ++ b.data.toList := by
  rw [ByteArray.data_append, Array.toList_append]
theorem size_toL (a : ByteArray) : a.size = a.data.toList.length := rfl
theorem trim_toL (s : ByteArray) : (trim s).data.toList = Lib.trimRightB s.data.toList 0 := rfl
theorem zeros_toL (n : Nat) : (zeros n).data.toList = List.replicate n 0 := rfl
theorem full_toL (s : ByteArray) : (full s).data.toList = s.data.toList ++ List.replicate (512 - s.size) 0 := by
  unfold full; rw [toL_append]; rfl
theorem trim_trim (s : ByteArray) : trim (trim s) = trim s := ext' (by rw [trim_toL, trim_toL, trimL_trimL])
theorem trim_size (s : ByteArray) : (trim s).size ≤ s.size := by
  obtain ⟨k, h⟩ := trimL_split s.data.toList
  have := congrArg List.length h
  rw [List.length_append, List.length_replicate] at this
  rw [size_toL, size_toL, trim_toL]
  omega
theorem trim_slim (s : ByteArray) (h : s.size ≤ 512) : Slim (trim s) := ⟨Nat.le_trans (trim_size s) h, trim_trim s⟩
theorem slim_empty : Slim E0 := ⟨by decide, by decide⟩
theorem full_size (s : ByteArray) (h : s.size ≤ 512) : (full s).size = 512 := by
  rw [size_toL, full_toL, List.length_append, List.length_replicate, ← size_toL]
  omega
def upd (f : Nat → ByteArray) (a : Nat) (s : ByteArray) : Nat → ByteArray := fun i => if i = a then s else f i
def cont (h : Hist) : Nat → ByteArray := h.foldl (fun f p => upd f p.1 p.2) fun _ => E0
theorem cont_snoc (h : Hist) (a : Nat) (s : ByteArray) : cont (h ++ [(a, s)]) = upd (cont h) a s := by unfold cont; rw [List.foldl_append]; rfl
def Good (n : Nat) (h : Hist) : Prop := ∀ p ∈ h, p.1 < n ∧ Slim p.2
theorem Good.nil (n : Nat) : Good n [] := fun p hp => by cases hp
theorem Good.snoc {n : Nat} {h : Hist} (g : Good n h) {a : Nat} {s : ByteArray} (ha : a < n) (hs : Slim s) : Good n (h ++ [(a, s)]) := fun p hp => by
  rcases List.mem_append.1 hp with hp | hp
  · exact g p hp
  · obtain rfl := List.mem_singleton.1 hp
    exact ⟨ha, hs⟩
theorem Good.take {n : Nat} {h : Hist} (g : Good n h) (k : Nat) : Good n (h.take k) := fun p hp => g p (List.mem_of_mem_take hp)
theorem Good.drop {n : Nat} {h : Hist} (g : Good n h) (k : Nat) : Good n (h.drop k) := fun p hp => g p (List.mem_of_mem_drop hp)
theorem snoc_ind {P : Hist → Prop} (h0 : P []) (hs : ∀ h a s, P h → P (h ++ [(a, s)])) : ∀ h, P h := fun h => by
  have key : ∀ l : Hist, P l.reverse := fun l => by
    induction l with
    | nil => exact h0
    | cons p r ih => rw [List.reverse_cons]; exact hs _ p.1 p.2 ih
  have := key h.reverse
  rwa [List.reverse_reverse] at this
theorem Good.init {n : Nat} {h : Hist} {a : Nat} {s : ByteArray} (g : Good n (h ++ [(a, s)])) : Good n h := fun p hp => g p (List.mem_append_left _ hp)
theorem Good.last {n : Nat} {h : Hist} {a : Nat} {s : ByteArray} (g : Good n (h ++ [(a, s)])) : a < n ∧ Slim s := g (a, s) (by simp)
theorem cont_slim {n : Nat} : ∀ h : Hist, Good n h → ∀ i, Slim (cont h i) := snoc_ind (fun _ i => slim_empty) fun h a s ih g i => by
  rw [cont_snoc]
  unfold upd
  by_cases hi : i = a
  · rw [if_pos hi]; exact g.last.2
  · rw [if_neg hi]; exact ih g.init i
theorem upd_back (f : Nat → ByteArray) (a : Nat) (s : ByteArray) : upd (upd f a s) a (f a) = f := by
  funext i
  unfold upd
  by_cases h : i = a
  · rw [if_pos h, h]
  · rw [if_neg h, if_neg h]
theorem take_next (h : Hist) (k : Nat) (hk : k < h.length) : h.take (k + 1) = h.take k ++ [h[k]] := by rw [List.take_succ_eq_append_getElem hk]
theorem cont_back (h : Hist) (k : Nat) (hk : k < h.length) : upd (cont (h.take (k + 1))) (h[k]).1 (cont (h.take k) (h[k]).1) = cont (h.take k) := by
  have e : h.take (k + 1) = h.take k ++ [((h[k]).1, (h[k]).2)] := take_next h k hk
  rw [e, cont_snoc, upd_back]
def used (n : Nat) (f : Nat → ByteArray) : List Nat := (List.range n).filter fun i => !decide (f i = E0)
theorem used_mem {n : Nat} {f : Nat → ByteArray} (i : Nat) : i ∈ used n f ↔ i < n ∧ f i ≠ E0 := by
  unfold used
  simp
theorem used_sorted (n : Nat) (f : Nat → ByteArray) : (used n f).Pairwise (· < ·) := List.Pairwise.filter _ List.pairwise_lt_range
end Go.Proofs.YteooldbdilkmeaaDoor.SC

namespace Go.Proofs.YteooldbdilkmeaaDoor.SC
open Go Go.Maps
set_option linter.unusedVariables false
set_option linter.unusedSimpArgs false
def heldV (s : ByteArray) : Value := .agg #[.string s]
def heldD (s : ByteArray) : DataW Unit := .lit (.string s.data.toList)
def heldE : Value → Option (DataW Unit × List MemPlace)
  | .agg cs => match cs.toList with
    | [.string s] => some (heldD s, [])
    | _ => none
  | _ => none
theorem heldE_mk (s : ByteArray) : heldE (heldV s) = some (heldD s, []) := rfl
theorem heldE_inv {v : Value} {z : DataW Unit × List MemPlace} (h : heldE v = some z) : ∃ s, v = heldV s ∧ z = (heldD s, []) := by
  unfold heldE at h
  split at h
  · rename_i cs
    split at h
    · rename_i s hs
      injection h with h
      refine ⟨s, ?_, h.symm⟩
      unfold heldV
      congr 1
      exact Array.toList_inj.1 hs
    · cases h
  · cases h
theorem heldD_inj {a b : ByteArray} (h : heldD a = heldD b) : a = b := by
  unfold heldD at h
  injection h with h
  injection h with h
  exact ext' h
abbrev kx (i : Nat) : Lit := .int .i64 (i : Int)
theorem kx_key (x : Int) : WideAt.IsKeyLit (.int .i64 x) := trivial
theorem kx_ne {i j : Int} (h : i ≠ j) : (Lit.int .i64 i) ≠ Lit.int .i64 j := fun e => h (by injection e)
structure MapIs (D : DataW Unit) (n : Nat) (f : Nat → ByteArray) : Prop where
  tidy : Tidy D
  at_ : ∀ i : Nat, D.atKey (kx i) (heldD E0) = heldD (f i)
  has_ : ∀ x : Int, Maps.has D (.int .i64 x) = true ↔ ∃ i : Nat, x = (i : Int) ∧ i < n ∧ f i ≠ E0
theorem MapIs.made (n : Nat) : MapIs (.map []) n fun _ => E0 :=
  ⟨tidy_empty, fun i => rfl, fun x => ⟨fun h => by simp [Maps.has] at h, fun ⟨i, _, _, h⟩ => absurd rfl h⟩⟩
theorem MapIs.put {D : DataW Unit} {n : Nat} {f : Nat → ByteArray} (h : MapIs D n f) {i : Nat} (hi : i < n) {s : ByteArray} (hs : s ≠ E0) : MapIs (D.put (kx i) (heldD s)) n (upd f i s) := by
  refine ⟨h.tidy.put (kx_key _) _, fun j => ?_, fun x => ?_⟩
  · unfold upd
    by_cases e : j = i
    · rw [if_pos e, e, atKey_put_same h.tidy.isMap (kx_key _)]
    · rw [if_neg e, atKey_put_other (kx_ne (by omega)), h.at_]
  · by_cases e : x = (i : Int)
    · subst e
      rw [show (Lit.int .i64 (i : Int)) = kx i from rfl, has_put_same h.tidy.isMap (kx_key _)]
      exact ⟨fun _ => ⟨i, rfl, hi, by unfold upd; rw [if_pos rfl]; exact hs⟩, fun _ => rfl⟩
    · rw [has_put_other (kx_ne e), h.has_]
      constructor
      · rintro ⟨j, rfl, h1, h2⟩
        exact ⟨j, rfl, h1, by unfold upd; rw [if_neg (by omega)]; exact h2⟩
      · rintro ⟨j, rfl, h1, h2⟩
        unfold upd at h2
        rw [if_neg (by omega)] at h2
        exact ⟨j, rfl, h1, h2⟩
theorem MapIs.del {D : DataW Unit} {n : Nat} {f : Nat → ByteArray} (h : MapIs D n f) (i : Nat) : MapIs (D.del (kx i)) n (upd f i E0) := by
  refine ⟨h.tidy.del _, fun j => ?_, fun x => ?_⟩
  · unfold upd
    by_cases e : j = i
    · rw [if_pos e, e, atKey_del_same]
    · rw [if_neg e, atKey_del_other (kx_ne (by omega)), h.at_]
  · by_cases e : x = (i : Int)
    · subst e
      rw [show (Lit.int .i64 (i : Int)) = kx i from rfl, has_del_same]
      refine ⟨fun h => by simp at h, fun ⟨j, h1, _, h2⟩ => ?_⟩
      obtain rfl : i = j := by omega
      unfold upd at h2
      rw [if_pos rfl] at h2
      exact absurd rfl h2
    · rw [has_del_other (kx_ne e), h.has_]
      constructor
      · rintro ⟨j, rfl, h1, h2⟩
        exact ⟨j, rfl, h1, by unfold upd; rw [if_neg (by omega)]; exact h2⟩
      · rintro ⟨j, rfl, h1, h2⟩
        unfold upd at h2
        rw [if_neg (by omega)] at h2
        exact ⟨j, rfl, h1, h2⟩
theorem MapIs.congr {D : DataW Unit} {n : Nat} {f g : Nat → ByteArray} (h : MapIs D n f) (e : f = g) : MapIs D n g := e ▸ h
section
variable {P : Program} {k : TypeId} {W : World} {b nn n : Nat} {D : DataW Unit} {f : Nat → ByteArray}
theorem keys_are (hk : P.underlying k = some (.int .i64)) (hown : W.ownsMap P k heldE b nn D) : ∃ es, D = .map es ∧ es.Pairwise (fun p q => p.1 ≠ q.1) ∧ ∀ p ∈ es, ∃ x, p.1 = Lit.int .i64 x := by
  obtain ⟨es, hD, hpw, _⟩ := hown.entries (int_keyed hk)
  refine ⟨es, hD, hpw, fun p hp => ?_⟩
  obtain ⟨ms, clock, _, F, _, hD2⟩ := hown
  rw [hD] at hD2
  injection hD2 with hD2
  rw [hD2] at hp
  obtain ⟨x, hx, rfl⟩ := List.mem_map.1 (mem_sorted.1 hp)
  obtain ⟨y, hy⟩ := F.reads x hx
  rw [WideElems.rg_of hy]
  obtain ⟨x', _, hkl, _⟩ := Maps.keyOf_i64 hk (WideElems.rd_key hy)
  exact ⟨x', hkl⟩
theorem keys_used (hk : P.underlying k = some (.int .i64)) (hown : W.ownsMap P k heldE b nn D) (h : MapIs D n f) : ((used n f).map fun (i : Nat) => (i : Int)).Perm (intKeys D) := by
  obtain ⟨es, rfl, hpw, hks⟩ := keys_are hk hown
  refine perm_intKeys hpw hks ?_ fun x => ?_
  · have := (used_sorted n f).imp (fun {a b} (h : a < b) => Nat.ne_of_lt h)
    exact List.Pairwise.map _ (fun a b hab e => hab (by omega)) this
  · rw [h.has_, List.mem_map]
    constructor
    · rintro ⟨i, hi, rfl⟩
      have := (used_mem i).1 hi
      exact ⟨i, rfl, this.1, this.2⟩
    · rintro ⟨i, rfl, h1, h2⟩
      exact ⟨i, (used_mem i).2 ⟨h1, h2⟩, rfl⟩
theorem used_le (n : Nat) (f : Nat → ByteArray) : (used n f).length ≤ n := by
  have := List.length_filter_le (fun i => !decide (f i = E0)) (List.range n)
  rw [List.length_range] at this
  exact this
theorem size_used (hk : P.underlying k = some (.int .i64)) (hown : W.ownsMap P k heldE b nn D) (h : MapIs D n f) : Maps.size D = (used n f).length := by
  have hl := (keys_used hk hown h).length_eq
  rw [List.length_map] at hl
  obtain ⟨es, hD, _⟩ := keys_are hk hown
  subst hD
  rw [hl]
  simp [Maps.size, intKeys]
theorem own_norm (hk : P.underlying k = some (.int .i64)) (hown : W.ownsMap P k heldE b nn D) (h : MapIs D n f) : W.ownsMap P k heldE b n D := by
  have hs := size_used hk hown h
  have hle := used_le n f
  obtain ⟨es, clock, hb, F, _, hD⟩ := hown
  refine ⟨es, clock, hb, F, ?_, hD⟩
  rw [hD] at hs
  simp only [Maps.size, length_sorted, List.length_map, Array.length_toList] at hs
  omega
theorem sorted_used (hk : P.underlying k = some (.int .i64)) (hown : W.ownsMap P k heldE b nn D) (h : MapIs D n f) {ss : List Int} (hp : ss.Perm (intKeys D)) : ss.mergeSort (fun x y => decide (x ≤ y)) = (used n f).map fun (i : Nat) => (i : Int) := by
  have e := mergeSort_of_perm_i (hp.trans (keys_used hk hown h).symm)
  have : ((used n f).map fun (i : Nat) => (i : Int)).mergeSort leI = (used n f).map fun (i : Nat) => (i : Int) := by
    refine List.mergeSort_of_pairwise ?_
    refine List.Pairwise.map _ (fun a b hab => ?_) (used_sorted n f)
    show decide ((a : Int) ≤ (b : Int)) = true
    have : a < b := hab
    exact decide_eq_true (by omega)
  rw [this] at e
  exact e
end
end Go.Proofs.YteooldbdilkmeaaDoor.SC

namespace Go.Proofs.YteooldbdilkmeaaDoor.SC
open Go.RowKit Go.Maps Go.Proofs.YteooldbdilkmeaaDoorW.PrintWords Go.Proofs.YteooldbdilkmeaaDoorW.PrintLast Go.Proofs.YteooldbdilkmeaaDoorW.PrintMore
set_option linter.unusedVariables false
set_option linter.unusedSimpArgs false
abbrev ixOf (v : Value) : Int := Go.RowKit.intOf v
abbrev Wr := Int × (ByteArray × ByteArray)
abbrev Wa := Int × ByteArray
def kW : Kd Wr := Kd.pair (Kd.int .i64) (Kd.pair Kd.string Kd.string)
def kA : Kd Wa := Kd.pair (Kd.int .i64) Kd.string
def wCells (x : Wr) : List Value := [.int .i64 x.1, .string x.2.1, .string x.2.2]
def aCells (x : Wa) : List Value := [.int .i64 x.1, .string x.2]
theorem kW_mk (w : World) (base : Nat) (ok : Nat → Prop) (x : Wr) : kW.M w base ok x (wCells x) := ⟨[.int .i64 x.1], [.string x.2.1, .string x.2.2], rfl, rfl, ⟨[.string x.2.1], [.string x.2.2], rfl, rfl, rfl⟩⟩
theorem kW_open {w : World} {x : Wr} {cs : List Value} (h : kW.K w x cs) : cs = wCells x := by
  obtain ⟨_, _, rfl, rfl, ⟨_, _, rfl, rfl, rfl⟩⟩ := h
  rfl
theorem kA_open {w : World} {x : Wa} {cs : List Value} (h : kA.K w x cs) : cs = aCells x := by
  obtain ⟨_, _, rfl, rfl, rfl⟩ := h
  rfl
theorem kW_move {w w1 : World} {e base : Nat} {v : Value} {xs : List Wr} (h : kW.R e w base (fun _ => True) v xs) (hm : ∀ k, v.ownBlock = some k → w1.heap[k]? = w.heap[k]?) : kW.R e w1 base (fun _ => True) v xs := by
  obtain ⟨_, inner, ho, hr⟩ := h
  exact ⟨fun _ _ => trivial, inner, own_move ho hm, hr⟩
def entry (h : Hist) (k : Nat) : Wr := (((h.getD k (0, E0)).1 : Int), (h.getD k (0, E0)).2, cont (h.take k) (h.getD k (0, E0)).1)
def logOf (h : Hist) (kept : Nat) : List Wr := (List.range (h.length - kept)).map fun j => entry h (kept + j)
theorem logOf_length (h : Hist) (kept : Nat) : (logOf h kept).length = h.length - kept := by simp [logOf]
theorem entry_snoc (h : Hist) (a : Nat) (s : ByteArray) (k : Nat) (hk : k < h.length) : entry (h ++ [(a, s)]) k = entry h k := by
  unfold entry
  have e1 : (h ++ [(a, s)]).getD k (0, E0) = h.getD k (0, E0) := by rw [List.getD_eq_getElem?_getD, List.getD_eq_getElem?_getD, List.getElem?_append_left hk]
  rw [e1, List.take_append_of_le_length (by omega)]
theorem entry_last (h : Hist) (a : Nat) (s : ByteArray) : entry (h ++ [(a, s)]) h.length = ((a : Int), s, cont h a) := by
  unfold entry
  have e1 : (h ++ [(a, s)]).getD h.length (0, E0) = (a, s) := by rw [List.getD_eq_getElem?_getD, List.getElem?_append_right (Nat.le_refl _)]; simp
  rw [e1, List.take_append_of_le_length (Nat.le_refl _), List.take_length]
theorem logOf_snoc (h : Hist) (kept : Nat) (hk : kept ≤ h.length) (a : Nat) (s : ByteArray) : logOf (h ++ [(a, s)]) kept = logOf h kept ++ [((a : Int), s, cont h a)] := by
  unfold logOf
  rw [List.length_append, List.length_singleton, show h.length + 1 - kept = (h.length - kept) + 1 by omega, List.range_succ, List.map_append, List.map_singleton, show kept + (h.length - kept) = h.length by omega, entry_last]
  congr 1
  apply List.map_congr_left
  intro j hj
  have := List.mem_range.1 hj
  exact entry_snoc h a s _ (by omega)
theorem logOf_none (h : Hist) : logOf h h.length = [] := by unfold logOf; rw [Nat.sub_self]; rfl
structure DkAt (W : World) (p M : Nat) (v : Value) (n : Nat) (h : Hist) (kept : Nat) : Prop where
  blk : W.heap[p]? = some (.cells #[.int .i64 (n : Int), .map (some M), v] 58 (0, 0))
  map : ∃ D, W.ownsMap Tryd.prog 3 heldE M n D ∧ MapIs D n (cont h)
  row : kW.R 65 W 0 (fun _ => True) v (logOf h kept)
  le : kept ≤ h.length
  good : Good n h
  nn : 256 ≤ n ∧ n ≤ 131072
theorem DkAt.map_blk {W : World} {p M n kept : Nat} {v : Value} {h : Hist} (H : DkAt W p M v n h kept) : ∃ es clock, W.heap[M]? = some (.map es clock) := by
  obtain ⟨D, ⟨es, clock, hb, _⟩, _⟩ := H.map
  exact ⟨es, clock, hb⟩
theorem DkAt.lt {W : World} {p M n kept : Nat} {v : Value} {h : Hist} (H : DkAt W p M v n h kept) : p < W.heap.size ∧ M < W.heap.size ∧ ∀ k, v.ownBlock = some k → k < W.heap.size := by
  obtain ⟨D, ho, _⟩ := H.map
  exact ⟨blk_lt H.blk, ho.lt, Kd.R_lt H.row⟩
theorem ownsMap_move {W W' : World} {M n : Nat} {D : DataW Unit} (h : W.ownsMap Tryd.prog 3 heldE M n D) (hM : W'.heap[M]? = W.heap[M]?) : W'.ownsMap Tryd.prog 3 heldE M n D := by
  obtain ⟨es, clock, hb, r⟩ := h
  exact ⟨es, clock, hM.trans hb, r⟩
theorem DkAt.move {W W' : World} {p M n kept : Nat} {v : Value} {h : Hist} (H : DkAt W p M v n h kept) (hp : W'.heap[p]? = W.heap[p]?) (hM : W'.heap[M]? = W.heap[M]?) (hv : ∀ k, v.ownBlock = some k → W'.heap[k]? = W.heap[k]?) : DkAt W' p M v n h kept := by
  obtain ⟨D, ho, hd⟩ := H.map
  exact ⟨hp.trans H.blk, ⟨D, ownsMap_move ho hM, hd⟩, kW_move H.row hv, H.le, H.good, H.nn⟩
theorem DkAt.below {W W' : World} {p M n kept : Nat} {v : Value} {h : Hist} (H : DkAt W p M v n h kept) {m : Nat} (hb : Below m W W') (hm : W.heap.size ≤ m) : DkAt W' p M v n h kept :=
  H.move (hb.block p (Nat.lt_of_lt_of_le H.lt.1 hm)) (hb.block M (Nat.lt_of_lt_of_le H.lt.2.1 hm)) fun k hk => hb.block k (Nat.lt_of_lt_of_le (H.lt.2.2 k hk) hm)
theorem DkAt.drew {W : World} {p M n kept : Nat} {v : Value} {h : Hist} (H : DkAt W p M v n h kept) : DkAt W.drew p M v n h kept := H.move rfl rfl fun _ _ => rfl
structure OnlyD (p M : Nat) (v : Value) (w w' : World) : Prop where
  os : w'.os = w.os
  tape : w'.tape = w.tape
  output : w'.output = w.output
  size : w.heap.size ≤ w'.heap.size
  block : ∀ k, k < w.heap.size → k ≠ p → k ≠ M → some k ≠ v.ownBlock → w'.heap[k]? = w.heap[k]?
theorem OnlyD.refl (p M : Nat) (v : Value) (w : World) : OnlyD p M v w w := ⟨rfl, rfl, rfl, Nat.le_refl _, fun _ _ _ _ _ => rfl⟩
def Moved (w : World) (v v' : Value) : Prop := v'.ownBlock = v.ownBlock ∨ ∀ k, v'.ownBlock = some k → w.heap.size ≤ k
theorem Moved.refl (w : World) (v : Value) : Moved w v v := .inl rfl
theorem Moved.trans {w w' : World} {v v' v'' : Value} (h : Moved w v v') (h' : Moved w' v' v'') (hs : w.heap.size ≤ w'.heap.size) : Moved w v v'' := by
  rcases h' with h' | h'
  · rcases h with h | h
    · exact .inl (h'.trans h)
    · exact .inr fun k hk => h k (h' ▸ hk)
  · exact .inr fun k hk => Nat.le_trans hs (h' k hk)
theorem OnlyD.trans {p M : Nat} {v v' : Value} {a b c : World} (h : OnlyD p M v a b) (k : OnlyD p M v' b c) (hm : Moved a v v') : OnlyD p M v a c :=
  ⟨k.os.trans h.os, k.tape.trans h.tape, k.output.trans h.output, Nat.le_trans h.size k.size, fun i hi h1 h2 h3 => (k.block i (Nat.lt_of_lt_of_le hi h.size) h1 h2 (fun e => by
    rcases hm with hm | hm
    · exact h3 (e.trans hm)
    · have := hm i e.symm; omega)).trans (h.block i hi h1 h2 h3)⟩
theorem OnlyD.of {p M n : Nat} {v : Value} {a b : World} (h : Below n a b) (hn : a.heap.size ≤ n) : OnlyD p M v a b := ⟨h.os, h.tape, h.output, h.size, fun k hk _ _ _ => h.block k (Nat.lt_of_lt_of_le hk hn)⟩
theorem OnlyD.grown {p M : Nat} {v : Value} {a b : World} {r : Option Nat} (h : a.grownBy b r) (hr : ∀ k, r = some k → k = p ∨ k = M ∨ some k = v.ownBlock ∨ a.heap.size ≤ k) : OnlyD p M v a b :=
  ⟨h.os, h.tape, h.output, h.size, fun k hk h1 h2 h3 => h.block k hk (fun e => by rcases hr k e.symm with h | h | h | h; exact h1 h; exact h2 h; exact h3 h; omega)⟩
theorem OnlyD.below {p M base : Nat} {v : Value} {a b c : World} (h : Below base a b) (o : OnlyD p M v b c) (hb : base ≤ b.heap.size) (hp : base ≤ p) (hM : base ≤ M) (hv : ∀ k, v.ownBlock = some k → base ≤ k) : Below base a c :=
  ⟨o.os.trans h.os, o.tape.trans h.tape, o.output.trans h.output, Nat.le_trans h.size o.size, fun k hk => (o.block k (Nat.lt_of_lt_of_le hk hb) (by omega) (by omega) (fun e => by have := hv k e.symm; omega)).trans (h.block k hk)⟩
theorem OnlyD.drew {p M : Nat} {v : Value} {a b : World} (h : OnlyD p M v a b) : OnlyD p M v a b.drew := ⟨h.os, h.tape, h.output, h.size, h.block⟩
theorem DkAt.other {W W' : World} {p M n kept : Nat} {v : Value} {h : Hist} (H : DkAt W p M v n h kept) {p' M' : Nat} {v' : Value} {n' kept' : Nat} {h' : Hist} (H' : DkAt W p' M' v' n' h' kept') (o : OnlyD p' M' v' W W') (h1 : p ≠ p') (h2 : M ≠ M') (h3 : ∀ k, v.ownBlock = some k → v'.ownBlock ≠ some k) : DkAt W' p M v n h kept := by
  obtain ⟨es, ck, hM⟩ := H.map_blk
  obtain ⟨es', ck', hM'⟩ := H'.map_blk
  have hv : ∀ k, v.ownBlock = some k → ∃ c, W.heap[k]? = some (.cells c 65 (0, 0)) := fun k hk => by
    obtain ⟨inner, ho⟩ := Kd.R_own H.row
    exact own_typed ho k hk
  have hv' : ∀ k, v'.ownBlock = some k → ∃ c, W.heap[k]? = some (.cells c 65 (0, 0)) := fun k hk => by
    obtain ⟨inner, ho⟩ := Kd.R_own H'.row
    exact own_typed ho k hk
  have hb := H.blk
  have hb' := H'.blk
  refine H.move (o.block p H.lt.1 h1 (fun e => ?_) (fun e => ?_)) (o.block M H.lt.2.1 (fun e => ?_) h2 (fun e => ?_)) fun k hk => o.block k (H.lt.2.2 k hk) (fun e => ?_) (fun e => ?_) (fun e => h3 k hk e.symm)
  · rw [e, hM'] at hb; cases hb
  · obtain ⟨c, hc⟩ := hv' p e.symm
    rw [hb] at hc
    injection hc with hc
    injection hc with _ hc
    exact absurd hc (by decide)
  · rw [e, hb'] at hM; cases hM
  · obtain ⟨c, hc⟩ := hv' M e.symm
    rw [hM] at hc; cases hc
  · obtain ⟨c, hc⟩ := hv k hk
    rw [e, hb'] at hc
    injection hc with hc
    injection hc with _ hc
    exact absurd hc (by decide)
  · obtain ⟨c, hc⟩ := hv k hk
    rw [e, hM'] at hc; cases hc
theorem DkAt.cells {W : World} {p M n kept : Nat} {v : Value} {h : Hist} (H : DkAt W p M v n h kept) : W.cell? ⟨p, 0, none⟩ = some (.int .i64 (n : Int)) ∧ W.cell? ⟨p, 1, none⟩ = some (.map (some M)) ∧ W.cell? ⟨p, 2, none⟩ = some v :=
  ⟨blk_cell H.blk 0, blk_cell H.blk 1, blk_cell H.blk 2⟩
theorem map_nil {W : World} (m : Option Nat) : (binOp .eql 55 (.map m) (.map none)).run Tryd.prog W = .ok (.bool m.isNone) W := run_eql_map_nil_sl (P := Tryd.prog) W 55 _ _ m Tryd.underlying55
def chk (n : Nat) (i : Int) : Int := if 0 ≤ i ∧ i < n then 0 else 2
set_option maxHeartbeats 1000000 in
set_option maxRecDepth 100000 in
theorem check_calls {W : World} {p M n kept : Nat} {v : Value} {h : Hist} (H : DkAt W p M v n h kept) (i : Int) :
    Calls Tryd.prog 28 #[.pointer (some ⟨p, 0, none⟩), .int .i64 i] W fun e w' => e = .returned (.int .i64 (chk n i)) ∧ Below W.heap.size W w' := by
  obtain ⟨c0, c1, _⟩ := H.cells
  have hmn : ∀ V : World, (binOp .eql 55 (.map (some M)) (.map none)).run Tryd.prog V = .ok (.bool false) V := fun V => map_nil (W := V) (some M)
  clear H
  unfold chk
  by_cases h0 : i < 0
  · have hd := decide_eq_true h0
    rw [if_neg (by omega)]
    go_enter Tryd.func28, Tryd.ntmps28
    go_wp2
    go_ret
    exact ⟨rfl, Below.refl _ _⟩
  · have hd := decide_eq_false h0
    by_cases h1 : (n : Int) ≤ i
    · have hd2 := decide_eq_true h1
      rw [if_neg (by omega)]
      go_enter Tryd.func28, Tryd.ntmps28
      go_wp2
      go_ret
      exact ⟨rfl, Below.refl _ _⟩
    · have hd2 := decide_eq_false h1
      rw [if_pos (by omega)]
      go_enter Tryd.func28, Tryd.ntmps28
      go_wp2
      go_ret
      exact ⟨rfl, Below.refl _ _⟩
set_option maxHeartbeats 1000000 in
set_option maxRecDepth 100000 in
theorem new_calls (n : Nat) (hn : 256 ≤ n ∧ n ≤ 131072) (W : World) :
    Calls Tryd.prog 18 #[.int .i64 (n : Int)] W fun e w' => e = .returned (.tuple #[.pointer (some ⟨W.heap.size + 1, 0, none⟩), .int .i64 0]) ∧ DkAt w' (W.heap.size + 1) W.heap.size (.slice none 0 0) n [] 0 ∧ Below W.heap.size W w' := by
  have HN := Lib.hid hn
  have d1 : decide ((n : Int) < 256) = false := decide_eq_false (by omega)
  have d2 : decide (131072 < (n : Int)) = false := decide_eq_false (by omega)
  have d1n : decide (n < 256) = false := decide_eq_false (by omega)
  have d2n : decide (131072 < n) = false := decide_eq_false (by omega)
  have hmm := @run_makeMap Tryd.prog
  clear hn
  go_enter Tryd.func18, Tryd.ntmps18
  go_wp2
  go_ret2
  have hsz : (W.alloc (.map #[] 0)).heap.size = W.heap.size + 1 := by simp
  refine ⟨by rfl, ⟨?_, ⟨.map [], ((World.ownsMap_made W _ _ _).mono (Nat.zero_le _)).alloc _, MapIs.made n⟩, Kd.R_nil _ _ _ _ _, Nat.zero_le _, Good.nil n, HN.out⟩, ?_⟩
  · have := blk_new (W.alloc (.map #[] 0)) (.cells #[.int .i64 (n : Int), .map (some W.heap.size), .slice none 0 0] 58)
    rw [hsz] at this
    exact this
  · exact below_alloc (below_alloc (Below.refl _ _) _) _
end Go.Proofs.YteooldbdilkmeaaDoor.SC

namespace Go.Proofs.YteooldbdilkmeaaDoor.SC
open Go.RowKit Go.Maps Go.Proofs.YteooldbdilkmeaaDoorW.PrintWords Go.Proofs.YteooldbdilkmeaaDoorW.PrintLast Go.Proofs.YteooldbdilkmeaaDoorW.PrintMore
set_option linter.unusedVariables false
set_option linter.unusedSimpArgs false
theorem rep_one : ∀ n : Nat, Lib.repeatL [(0 : UInt8)] n = List.replicate n 0
  | 0 => rfl
  | n + 1 => by rw [Lib.repeatL, rep_one n]; rfl
theorem rep_zeros (n : Nat) : (⟨(Lib.repeatL (⟨#[0]⟩ : ByteArray).data.toList n).toArray⟩ : ByteArray) = zeros n := ext' (rep_one n)
set_option maxHeartbeats 1000000 in
set_option maxRecDepth 100000 in
theorem full_calls (s : ByteArray) (hs : s.size ≤ 512) (W : World) : Calls Tryd.prog 29 #[.string s] W fun e w' => e = .returned (.string (full s)) ∧ Below W.heap.size W w' := by
  obtain ⟨m, hm⟩ : ∃ m, 512 - s.size = m := ⟨_, rfl⟩
  have hw : wrap64 (512 - (s.size : Int)) = (m : Int) := by unfold wrap64; omega
  have HR := Lib.hid (Tryd.strings_Repeat ⟨#[0]⟩ m W (by omega) (by have : (⟨#[0]⟩ : ByteArray).size = 1 := rfl; rw [this]; omega))
  rw [rep_zeros, show (m : Int) = 512 - (s.size : Int) by omega] at HR
  have hz : (zeros m).size = m := by rw [size_toL, zeros_toL, List.length_replicate]
  have HF : Hid (s ++ zeros m = full s) := Lib.hid (by unfold full; rw [hm])
  obtain ⟨z, hzz⟩ : ∃ z, zeros m = z := ⟨_, rfl⟩
  rw [hzz] at HR hz HF
  have hbd : ¬ (9223372036854775807 < s.size + z.size) := by omega
  clear hz hzz hs hm
  go_enter Tryd.func29, Tryd.ntmps29
  go_wp2_with fail
  refine HR.out.mono ?_; rintro e w1 ⟨rfl, hb1⟩
  have HB1 := Lib.hid hb1
  clear hb1
  go_wp2
  go_ret
  exact ⟨by rw [HF.out]; rfl, HB1.out⟩
theorem zero_held (W : World) : (zeroValue 62).run Tryd.prog W = .ok (heldV E0) W := by kernel_rfl
theorem wf_i64 {i : Nat} (h : i ≤ 9223372036854775807) : (Lit.int .i64 (i : Int)).wf = true := WalkArith.wf_i64 (by omega)
theorem keyOf_ix {i : Nat} (h : i ≤ 9223372036854775807) : keyOf Tryd.prog 3 (.int .i64 (i : Int)) = some (kx i) := keyOf_int_mk Tryd.underlying3 (wf_i64 h)
theorem look_have {W : World} {M n : Nat} {D : DataW Unit} {f : Nat → ByteArray} (ho : W.ownsMap Tryd.prog 3 heldE M n D) (hm : MapIs D n f) (i : Nat) (hi : i ≤ 9223372036854775807) :
    (Instr.lookup 55 (.map (some M)) (.int .i64 (i : Int)) false).run Tryd.prog W = .ok (.agg #[.string (f i)]) W := by
  obtain ⟨v, ps, hr, hv⟩ := ho.lookup (z := heldV E0) (zd := heldD E0) (zp := []) (kl := kx i) (int_keyed Tryd.underlying3) Tryd.underlying55 (zero_held W) (heldE_mk E0) (keyOf_ix hi)
  rw [hm.at_ i] at hv
  obtain ⟨s, rfl, e⟩ := heldE_inv hv
  have e3 := heldD_inj (congrArg Prod.fst e)
  exact hr.trans (congrArg (fun x => Result.ok (heldV x) W) e3.symm)
theorem field_held (s : ByteArray) (V : World) : (Instr.field 62 (.agg #[.string s]) 0).run Tryd.prog V = .ok (.string s) V := by kernel_rfl
theorem DkAt.look {W : World} {p M n kept : Nat} {v : Value} {h : Hist} (H : DkAt W p M v n h kept) (i : Nat) (hi : i < n) :
    (Instr.lookup 55 (.map (some M)) (.int .i64 (i : Int)) false).run Tryd.prog W = .ok (.agg #[.string (cont h i)]) W := by
  obtain ⟨D, ho, hm⟩ := H.map
  exact look_have ho hm i (by have := H.nn; omega)
set_option maxHeartbeats 1000000 in
set_option maxRecDepth 100000 in
theorem read_calls {W : World} {p M n kept : Nat} {v : Value} {h : Hist} (H : DkAt W p M v n h kept) (i : Nat) (hi : i < n) :
    Calls Tryd.prog 10 #[.pointer (some ⟨p, 0, none⟩), .int .i64 (i : Int)] W fun e w' => e = .returned (.tuple #[.string (full (cont h i)), .int .i64 0]) ∧ Below W.heap.size W w' := by
  have HD := Lib.hid H
  have HC := Lib.hid (check_calls H (i : Int))
  rw [show chk n (i : Int) = 0 from if_pos (by omega)] at HC
  have HS := Lib.hid (fun V => full_calls (cont h i) (cont_slim h H.good i).1 V)
  have Hi := Lib.hid hi
  clear H hi
  go_enter Tryd.func10, Tryd.ntmps10
  go_wp2_with fail
  refine HC.out.mono ?_; rintro e w1 ⟨rfl, hb1⟩
  have HD1 := Lib.hid (HD.out.below hb1 (Nat.le_refl _))
  have HB1 := Lib.hid hb1
  obtain ⟨c0, c1, c2⟩ := HD1.out.cells
  have hlk := HD1.out.look i Hi.out
  have hfd := field_held
  obtain ⟨s, hs⟩ : ∃ s, cont h i = s := ⟨_, rfl⟩
  rw [hs] at hlk HS
  have Hs := Lib.hid hs
  clear hb1 hs
  go_wp2_with fail
  refine (HS.out _).mono ?_; rintro e w2 ⟨rfl, hb2⟩
  have HB2 := Lib.hid (below_step HB1.out hb2)
  clear hb2 c0 c1 c2 hlk
  go_wp2
  go_ret2
  exact ⟨by rw [Hs.out]; rfl, HB2.out⟩
set_option maxRecDepth 100000 in
theorem len_calls {W : World} {p M n kept : Nat} {v : Value} {h : Hist} (H : DkAt W p M v n h kept) :
    Calls Tryd.prog 27 #[.pointer (some ⟨p, 0, none⟩)] W fun e w' => e = .returned (.int .i64 (n : Int)) ∧ Below W.heap.size W w' := by
  obtain ⟨c0, c1, c2⟩ := H.cells
  clear H
  go_enter Tryd.func27, Tryd.ntmps27
  go_wp2
  go_ret
  exact ⟨rfl, Below.refl _ _⟩
theorem DkAt.log_slice {W : World} {p M n kept : Nat} {v : Value} {h : Hist} (H : DkAt W p M v n h kept) : ∃ A c, v = .slice A (h.length - kept) c := by
  obtain ⟨A, c, e⟩ := Kd.R_slice H.row
  rw [logOf_length] at e
  exact ⟨A, c, e⟩
set_option maxRecDepth 100000 in
theorem writes_calls {W : World} {p M n kept : Nat} {v : Value} {h : Hist} (H : DkAt W p M v n h kept) :
    Calls Tryd.prog 13 #[.pointer (some ⟨p, 0, none⟩)] W fun e w' => e = .returned (.int .i64 ((h.length - kept : Nat) : Int)) ∧ Below W.heap.size W w' := by
  obtain ⟨c0, c1, c2⟩ := H.cells
  obtain ⟨A, c, rfl⟩ := H.log_slice
  obtain ⟨m, hm⟩ : ∃ m, h.length - kept = m := ⟨_, rfl⟩
  rw [hm] at c2
  rw [hm]
  clear H hm
  go_enter Tryd.func13, Tryd.ntmps13
  go_wp2
  go_ret
  exact ⟨rfl, Below.refl _ _⟩
set_option maxHeartbeats 1000000 in
set_option maxRecDepth 100000 in
theorem mark_calls {W : World} {p M n kept : Nat} {v : Value} {h : Hist} (H : DkAt W p M v n h kept) :
    Calls Tryd.prog 21 #[.pointer (some ⟨p, 0, none⟩)] W fun e w' => e = .returned (.tuple #[]) ∧ DkAt w' p M (.slice none 0 0) n h h.length ∧ OnlyD p M v W w' := by
  have HD := Lib.hid H
  obtain ⟨c0, c1, c2⟩ := H.cells
  have b0 := blk_frozen H.blk
  have HK := Lib.hid (blk_put H.blk 2 (.slice none 0 0) (cs' := #[.int .i64 (n : Int), .map (some M), .slice none 0 0]) rfl)
  have HO : Hid (OnlyD p M v W (W.setCell ⟨p, 2, none⟩ (.slice none 0 0))) := Lib.hid (OnlyD.grown (r := some p) ⟨rfl, rfl, rfl, by simp [World.setCell], fun k hk hne => Below.heap_setCell W _ _ k (fun e => hne (by rw [show k = p from e]))⟩ (fun k hk => .inl (by injection hk with hk; exact hk.symm)))
  have HM : Hid ((W.setCell ⟨p, 2, none⟩ (.slice none 0 0)).heap[M]? = W.heap[M]?) := Lib.hid (Below.heap_setCell W _ _ M (fun e => by
    have e : M = p := e
    obtain ⟨es, ck, hM⟩ := H.map_blk
    have := H.blk
    rw [e, this] at hM; cases hM))
  clear H
  go_enter Tryd.func21, Tryd.ntmps21
  go_wp2
  go_end0
  obtain ⟨D, ho, hd⟩ := HD.out.map
  refine ⟨rfl, ⟨HK.out, ⟨D, ownsMap_move ho HM.out, hd⟩, ?_, Nat.le_refl _, HD.out.good, HD.out.nn⟩, HO.out⟩
  rw [logOf_none]
  exact Kd.R_nil _ _ _ _ _
end Go.Proofs.YteooldbdilkmeaaDoor.SC

namespace Go.Proofs.YteooldbdilkmeaaDoor.SC
open Go.RowKit Go.Maps Go.Proofs.YteooldbdilkmeaaDoorW.PrintWords Go.Proofs.YteooldbdilkmeaaDoorW.PrintLast Go.Proofs.YteooldbdilkmeaaDoorW.PrintMore
set_option linter.unusedVariables false
set_option linter.unusedSimpArgs false
theorem str_empty (s : ByteArray) : s.toList.isEmpty = decide (s = E0) := by
  rw [ByteArray.toList_eq]
  by_cases e : s = E0
  · rw [decide_eq_true e, e]; rfl
  · rw [decide_eq_false e, List.isEmpty_eq_false_iff]
    exact fun h => e (ext' h)
set_option maxHeartbeats 1000000 in
set_option maxRecDepth 100000 in
theorem put_calls {W : World} {p M n : Nat} {v : Value} {D : DataW Unit} {f : Nat → ByteArray} (hb : W.heap[p]? = some (.cells #[.int .i64 (n : Int), .map (some M), v] 58 (0, 0))) (ho : W.ownsMap Tryd.prog 3 heldE M n D) (hm : MapIs D n f) (hn : n ≤ 131072) (i : Nat) (hi : i < n) (s : ByteArray) :
    Calls Tryd.prog 32 #[.pointer (some ⟨p, 0, none⟩), .int .i64 (i : Int), .string s] W fun e w' => e = .returned (.tuple #[]) ∧ (∃ D', w'.ownsMap Tryd.prog 3 heldE M n D' ∧ MapIs D' n (upd f i s)) ∧ W.grownBy w' (some M) := by
  have c1 : W.cell? ⟨p, 1, none⟩ = some (.map (some M)) := blk_cell hb 1
  have hse := str_empty s
  by_cases hs : s = E0
  · obtain ⟨w2, hrun, ho2, ht⟩ := ho.drop (int_keyed Tryd.underlying3) Tryd.underlying55 (keyOf_ix (i := i) (by omega)) 0
    have HE : Hid (∃ D', w2.ownsMap Tryd.prog 3 heldE M n D' ∧ MapIs D' n (upd f i s)) := Lib.hid ⟨_, ho2, by rw [hs]; exact hm.del i⟩
    have HG := Lib.hid ht.grown
    rw [decide_eq_true hs] at hse
    clear ho2 ht hs hb ho hm hi hn
    go_enter Tryd.func32, Tryd.ntmps32
    go_wp2
    (try simp only [Exit.inBlock, Exit.then]); refine bodyPost_ret (results_none rfl _ _ _) rfl ?_
    exact ⟨rfl, HE.out, HG.out⟩
  · obtain ⟨w2, hrun, ho2, hg⟩ := ho.update (val := .agg #[.string s]) (int_keyed Tryd.underlying3) Tryd.underlying55 (by unfold maxLen; omega) (keyOf_ix (i := i) (by omega)) (heldE_mk s)
    have HE : Hid (∃ D', w2.ownsMap Tryd.prog 3 heldE M n D' ∧ MapIs D' n (upd f i s)) := Lib.hid ⟨_, own_norm Tryd.underlying3 ho2 (hm.put hi hs), hm.put hi hs⟩
    have HG := Lib.hid hg
    rw [decide_eq_false hs] at hse
    clear ho2 hg hs hb ho hm hi hn
    go_enter Tryd.func32, Tryd.ntmps32
    go_wp2
    go_end0
    exact ⟨rfl, HE.out, HG.out⟩
end Go.Proofs.YteooldbdilkmeaaDoor.SC

namespace Go.Proofs.YteooldbdilkmeaaDoor.SC
open Go.RowKit Go.Maps Go.Proofs.YteooldbdilkmeaaDoorW.PrintWords Go.Proofs.YteooldbdilkmeaaDoorW.PrintLast Go.Proofs.YteooldbdilkmeaaDoorW.PrintMore
set_option linter.unusedVariables false
set_option linter.unusedSimpArgs false
theorem infoWr : (Tryd.prog.info? 65).map (fun i => (i.zero, i.size, i.bytes)) = some (some (.agg #[.int .i64 0, .string ByteArray.empty, .string ByteArray.empty]), 3, 40) := by kernel_rfl
theorem DkAt.alloc {W : World} {p M n kept : Nat} {v : Value} {h : Hist} (H : DkAt W p M v n h kept) (o : Obj) : DkAt (W.alloc o) p M v n h kept := H.below (below_alloc (Below.refl W.heap.size W) o) (Nat.le_refl _)
theorem grown_cells {w w9 : World} {p M n kept : Nat} {v : Value} {h : Hist} (H : DkAt w p M v n h kept) (hg : w.grownBy w9 v.ownBlock) :
    w9.heap[p]? = some (.cells #[.int .i64 (n : Int), .map (some M), v] 58 (0, 0)) ∧ (w9.heap[M]? = w.heap[M]?) ∧ ∃ D, w9.ownsMap Tryd.prog 3 heldE M n D ∧ MapIs D n (cont h) := by
  obtain ⟨es, ck, hM⟩ := H.map_blk
  have hpv : some p ≠ v.ownBlock := fun e => by
    obtain ⟨inner, ho⟩ := Kd.R_own H.row
    obtain ⟨c, hc⟩ := own_typed ho p e.symm
    rw [H.blk] at hc
    injection hc with hc
    injection hc with _ hc
    exact absurd hc (by decide)
  have hMv : some M ≠ v.ownBlock := fun e => by
    obtain ⟨inner, ho⟩ := Kd.R_own H.row
    obtain ⟨c, hc⟩ := own_typed ho M e.symm
    rw [hM] at hc; cases hc
  have hM9 := (hg.block M H.lt.2.1 hMv)
  obtain ⟨D, ho, hm⟩ := H.map
  exact ⟨(hg.block p H.lt.1 hpv).trans H.blk, hM9, D, ownsMap_move ho hM9, hm⟩
theorem after_append {w w9 : World} {p M n kept : Nat} {v v9 : Value} {h : Hist} {xs : List Wr} (H : DkAt w p M v n h kept) (hg : w.grownBy w9 v.ownBlock) (hr : kW.R 65 w9 0 (fun _ => True) v9 xs) :
    (w9.setCell ⟨p, 2, none⟩ v9).heap[p]? = some (.cells #[.int .i64 (n : Int), .map (some M), v9] 58 (0, 0)) ∧ (∃ D, (w9.setCell ⟨p, 2, none⟩ v9).ownsMap Tryd.prog 3 heldE M n D ∧ MapIs D n (cont h)) ∧ kW.R 65 (w9.setCell ⟨p, 2, none⟩ v9) 0 (fun _ => True) v9 xs ∧ OnlyD p M v w (w9.setCell ⟨p, 2, none⟩ v9) := by
  obtain ⟨es, ck, hM⟩ := H.map_blk
  have hpv : some p ≠ v.ownBlock := fun e => by
    obtain ⟨inner, ho⟩ := Kd.R_own H.row
    obtain ⟨c, hc⟩ := own_typed ho p e.symm
    rw [H.blk] at hc
    injection hc with hc
    injection hc with _ hc
    exact absurd hc (by decide)
  have hMv : some M ≠ v.ownBlock := fun e => by
    obtain ⟨inner, ho⟩ := Kd.R_own H.row
    obtain ⟨c, hc⟩ := own_typed ho M e.symm
    rw [hM] at hc; cases hc
  have hpM : M ≠ p := fun e => by have := H.blk; rw [← e, hM] at this; cases this
  have h9 := (hg.block p H.lt.1 hpv).trans H.blk
  have hM9 := (hg.block M H.lt.2.1 hMv)
  have hs : (w9.setCell ⟨p, 2, none⟩ v9).heap[M]? = w9.heap[M]? := Below.heap_setCell w9 _ _ M hpM
  obtain ⟨D, ho, hm⟩ := H.map
  refine ⟨blk_put h9 2 v9 rfl, ⟨D, ownsMap_move (ownsMap_move ho hM9) hs, hm⟩, kW_move hr fun k hk => Below.heap_setCell w9 _ _ k (fun e => ?_), ?_⟩
  · obtain ⟨inner, ho⟩ := Kd.R_own hr
    obtain ⟨c, hc⟩ := own_typed ho k hk
    rw [show k = p from e, h9] at hc
    injection hc with hc
    injection hc with _ hc
    exact absurd hc (by decide)
  · exact (OnlyD.grown hg (fun k hk => .inr (.inr (.inl hk.symm)))).trans (OnlyD.grown (r := some p) ⟨rfl, rfl, rfl, by simp [World.setCell], fun k hk hne => Below.heap_setCell w9 _ _ k (fun e => hne (by rw [show k = p from e]))⟩ (fun k hk => .inl (by injection hk with hk; exact hk.symm))) (Moved.refl _ _)
theorem trimr_calls (s : ByteArray) (hs : s.size ≤ 9223372036854775807) (W : World) : Calls Tryd.prog 31 #[.string s, .string ⟨#[0]⟩] W fun e w' => e = .returned (.string (trim s)) ∧ Below W.heap.size W w' :=
  (Tryd.strings_TrimRight_one s 0 (by decide) W hs).mono fun e w' ⟨h1, h2⟩ => ⟨h1, by rw [h2]; exact Below.refl _ _⟩
set_option maxRecDepth 100000 in
theorem clone_calls (s : ByteArray) (hs : s.size ≤ 281474976710656) (W : World) : Calls Tryd.prog 30 #[.string s] W fun e w' => e = .returned (.string s) ∧ Below W.heap.size W w' := by
  have HC := Lib.hid (Tryd.stringslite_Clone s W hs)
  clear hs
  go_enter Tryd.func30, Tryd.ntmps30
  go_wp2_with fail
  refine HC.out.mono ?_; rintro e w1 ⟨rfl, hb1⟩
  have HB := Lib.hid hb1
  clear hb1
  go_wp2
  go_ret
  exact ⟨rfl, HB.out⟩
set_option maxHeartbeats 1000000 in
set_option maxRecDepth 100000 in
theorem write_no {W : World} {p M n kept : Nat} {v : Value} {h : Hist} (H : DkAt W p M v n h kept) (i : Int) (hi : ¬ (0 ≤ i ∧ i < n)) (s : ByteArray) :
    Calls Tryd.prog 12 #[.pointer (some ⟨p, 0, none⟩), .int .i64 i, .string s] W fun e w' => e = .returned (.int .i64 2) ∧ Below W.heap.size W w' := by
  have HC := Lib.hid (check_calls H i)
  rw [show chk n i = 2 from if_neg hi] at HC
  clear H hi
  go_enter Tryd.func12, Tryd.ntmps12
  go_wp2_with fail
  refine HC.out.mono ?_; rintro e w1 ⟨rfl, hb1⟩
  go_wp2
  go_ret
  exact ⟨rfl, hb1⟩
set_option maxHeartbeats 1000000 in
set_option maxRecDepth 100000 in
theorem write_long {W : World} {p M n kept : Nat} {v : Value} {h : Hist} (H : DkAt W p M v n h kept) (i : Int) (hi : 0 ≤ i ∧ i < n) (s : ByteArray) (hs : 512 < s.size) :
    Calls Tryd.prog 12 #[.pointer (some ⟨p, 0, none⟩), .int .i64 i, .string s] W fun e w' => e = .returned (.int .i64 3) ∧ Below W.heap.size W w' := by
  have HC := Lib.hid (check_calls H i)
  rw [show chk n i = 0 from if_pos hi] at HC
  have hd : decide ((512 : Int) < (s.size : Int)) = true := decide_eq_true (by omega)
  have hdn : decide (512 < s.size) = true := decide_eq_true hs
  clear H hi hs
  go_enter Tryd.func12, Tryd.ntmps12
  go_wp2_with fail
  refine HC.out.mono ?_; rintro e w1 ⟨rfl, hb1⟩
  have HB := Lib.hid hb1
  clear hb1
  go_wp2
  go_ret
  exact ⟨rfl, HB.out⟩
set_option maxHeartbeats 2000000 in
set_option maxRecDepth 100000 in
theorem write_calls {W : World} {p M n kept : Nat} {v : Value} {h : Hist} (H : DkAt W p M v n h kept) (i : Nat) (hi : i < n) (s : ByteArray) (hs : s.size ≤ 512) (hl : h.length ≤ 1000000) :
    Calls Tryd.prog 12 #[.pointer (some ⟨p, 0, none⟩), .int .i64 (i : Int), .string s] W fun e w' => e = .returned (.int .i64 0) ∧ (∃ v', DkAt w' p M v' n (h ++ [(i, trim s)]) kept ∧ Moved W v v') ∧ OnlyD p M v W w' := by
  have HD := Lib.hid H
  have HC := Lib.hid (check_calls H (i : Int))
  rw [show chk n (i : Int) = 0 from if_pos (by omega)] at HC
  have HT := Lib.hid (fun V => trimr_calls s (by omega) V)
  have HCl := Lib.hid (fun V => clone_calls (trim s) (by have := trim_size s; omega) V)
  have HSl := Lib.hid (trim_slim s hs)
  have hd : decide ((512 : Int) < (s.size : Int)) = false := decide_eq_false (by omega)
  have hdn : decide (512 < s.size) = false := decide_eq_false (by omega)
  have Hi := Lib.hid hi
  have Hl := Lib.hid hl
  obtain ⟨t, ht⟩ : ∃ t, trim s = t := ⟨_, rfl⟩
  rw [ht] at HT HCl HSl
  have Ht := Lib.hid ht
  clear H hi hs ht hl
  go_enter Tryd.func12, Tryd.ntmps12
  go_wp2_with fail
  refine HC.out.mono ?_; rintro e w1 ⟨rfl, hb1⟩
  have HD1 := Lib.hid (HD.out.below hb1 (Nat.le_refl _))
  have HB1 := Lib.hid hb1
  clear hb1
  go_wp2_with fail
  refine (HT.out _).mono ?_; rintro e w2 ⟨rfl, hb2⟩
  have HD2 := Lib.hid (HD1.out.below hb2 (Nat.le_refl _))
  have HB2 := Lib.hid (below_step HB1.out hb2)
  clear hb2
  go_wp2_with fail
  refine (HCl.out _).mono ?_; rintro e w3 ⟨rfl, hb3⟩
  have HD3 := Lib.hid (HD2.out.below hb3 (Nat.le_refl _))
  have HB3 := Lib.hid (below_step HB2.out hb3)
  obtain ⟨c0, c1, c2⟩ := HD3.out.cells
  have hlk := HD3.out.look i Hi.out
  have hfd := field_held
  have b0 := blk_frozen HD3.out.blk
  clear hb3 hd hdn
  have HCs : Hid (∀ (w9 : World) (v9 : Value), w3.drew.grownBy w9 v.ownBlock → kW.R 65 w9 0 (fun _ => True) v9 (logOf h kept ++ [((i : Int), t, cont h i)]) → (w9.cell? ⟨p, 1, none⟩ = some (.map (some M)) ∧ w9.cell? ⟨p, 2, none⟩ = some v) ∧ w9.frozen? ⟨p, 2, none⟩ = false ∧ (Instr.lookup 55 (.map (some M)) (.int .i64 (i : Int)) false).run Tryd.prog w9 = .ok (.agg #[.string (cont h i)]) w9) := Lib.hid (fun w9 v9 hg hr => by
    obtain ⟨h1, h2, h3⟩ := grown_cells HD3.out.drew hg
    obtain ⟨D, ho, hm⟩ := h3
    exact ⟨⟨blk_cell h1 1, blk_cell h1 2⟩, blk_frozen h1 2, look_have ho hm i (by have := Hi.out; have := HD3.out.nn; omega)⟩)
  obtain ⟨lg, hlg⟩ : ∃ x, logOf h kept ++ [((i : Int), t, cont h i)] = x := ⟨_, rfl⟩
  have Hlg := Lib.hid hlg
  rw [hlg] at HCs
  clear hlg
  go_upto_region 7 with fail
  refine start_ (n := 21) (S := fun w' => w'.cell? ⟨p, 1, none⟩ = some (.map (some M)) ∧ w'.cell? ⟨p, 2, none⟩ = some v ∧ (Instr.lookup 55 (.map (some M)) (.int .i64 (i : Int)) false).run Tryd.prog w' = .ok (.agg #[.string (cont h i)]) w') (ds := [20]) #[false, false, false, false, false, false, false, false, false, false, false, false, false, false, false, false, false, false, false, false, false] (by kernel_rfl) rfl rfl ⟨HD3.out.drew.cells.2.1, HD3.out.drew.cells.2.2, HD3.out.drew.look i Hi.out⟩ (fun hHeld => ?_)
  refine pure_ (i := 0) (N := some 21) (v := ?_) (a' := ?_) #[true, false, false, false, false, false, false, false, false, false, false, false, false, false, false, false, false, false, false, false, false] rfl rfl (by kernel_rfl) (fun _ _ _ h => h) (Or.inl ⟨by rfl, ?_⟩) ?_ ?_
  rotate_left
  · intro w'
    go_simp
    with_reducible rfl
  rotate_left
  · simp only [Act.put, List.setIfInBounds_toArray, List.set_cons_zero, List.set_cons_succ, i64_w, i32_w]
    rfl
  refine pure_ (i := 1) (N := some 22) (v := ?_) (a' := ?_) #[true, true, false, false, false, false, false, false, false, false, false, false, false, false, false, false, false, false, false, false, false] rfl rfl (by kernel_rfl) (fun _ _ _ h => h) (Or.inl ⟨by rfl, ?_⟩) ?_ ?_
  rotate_left
  · intro w'
    go_simp
    with_reducible rfl
  rotate_left
  · simp only [Act.put, List.setIfInBounds_toArray, List.set_cons_zero, List.set_cons_succ, i64_w, i32_w]
    rfl
  refine pure_ (i := 2) (N := some 23) (v := ?_) (a' := ?_) #[true, true, true, false, false, false, false, false, false, false, false, false, false, false, false, false, false, false, false, false, false] rfl rfl (by kernel_rfl) (fun _ _ _ h => h) (Or.inl ⟨by rfl, ?_⟩) ?_ ?_
  rotate_left
  · intro w'
    go_simp
    with_reducible rfl
  rotate_left
  · simp only [Act.put, List.setIfInBounds_toArray, List.set_cons_zero, List.set_cons_succ, i64_w, i32_w]
    rfl
  refine pure_ (i := 3) (N := some 24) (v := ?_) (a' := ?_) #[true, true, true, true, false, false, false, false, false, false, false, false, false, false, false, false, false, false, false, false, false] rfl rfl (by kernel_rfl) (fun _ _ _ h => h) (Or.inl ⟨by rfl, ?_⟩) ?_ ?_
  rotate_left
  · intro w'
    go_simp
    with_reducible rfl
  rotate_left
  · simp only [Act.put, List.setIfInBounds_toArray, List.set_cons_zero, List.set_cons_succ, i64_w, i32_w]
    rfl
  refine pure_ (i := 5) (N := some 26) (v := ?_) (a' := ?_) #[true, true, true, true, false, true, false, false, false, false, false, false, false, false, false, false, false, false, false, false, false] rfl rfl (by kernel_rfl) (fun _ _ _ h => h) (Or.inl ⟨by rfl, ?_⟩) ?_ ?_
  rotate_left
  · intro w'
    go_simp
    with_reducible rfl
  rotate_left
  · simp only [Act.put, List.setIfInBounds_toArray, List.set_cons_zero, List.set_cons_succ, i64_w, i32_w]
    rfl
  refine pure_ (i := 6) (N := some 27) (v := ?_) (a' := ?_) #[true, true, true, true, false, true, true, false, false, false, false, false, false, false, false, false, false, false, false, false, false] rfl rfl (by kernel_rfl) (fun _ _ _ h => h) (Or.inl ⟨by rfl, ?_⟩) ?_ ?_
  rotate_left
  · intro w'
    go_simp
    with_reducible rfl
  rotate_left
  · simp only [Act.put, List.setIfInBounds_toArray, List.set_cons_zero, List.set_cons_succ, i64_w, i32_w]
    rfl
  refine pure_ (i := 7) (N := some 28) (v := ?_) (a' := ?_) #[true, true, true, true, false, true, true, true, false, false, false, false, false, false, false, false, false, false, false, false, false] rfl rfl (by kernel_rfl) (fun _ _ _ h => h) (Or.inl ⟨by rfl, ?_⟩) ?_ ?_
  rotate_left
  · intro w'
    go_simp
    with_reducible rfl
  rotate_left
  · simp only [Act.put, List.setIfInBounds_toArray, List.set_cons_zero, List.set_cons_succ, i64_w, i32_w]
    rfl
  refine pure_ (i := 8) (N := some 29) (v := ?_) (a' := ?_) #[true, true, true, true, false, true, true, true, true, false, false, false, false, false, false, false, false, false, false, false, false] rfl rfl (by kernel_rfl) (fun _ _ _ h => h) (Or.inl ⟨by rfl, ?_⟩) ?_ ?_
  rotate_left
  · intro w'
    go_simp
    with_reducible rfl
  rotate_left
  · simp only [Act.put, List.setIfInBounds_toArray, List.set_cons_zero, List.set_cons_succ, i64_w, i32_w]
    rfl
  refine pure_ (i := 9) (N := some 30) (v := ?_) (a' := ?_) #[true, true, true, true, false, true, true, true, true, true, false, false, false, false, false, false, false, false, false, false, false] rfl rfl (by kernel_rfl) (fun _ _ _ h => h) (Or.inl ⟨by rfl, ?_⟩) ?_ ?_
  rotate_left
  · intro w'
    go_simp
    with_reducible rfl
  rotate_left
  · simp only [Act.put, List.setIfInBounds_toArray, List.set_cons_zero, List.set_cons_succ, i64_w, i32_w]
    rfl
  refine pure_ (i := 10) (N := some 31) (v := ?_) (a' := ?_) #[true, true, true, true, false, true, true, true, true, true, true, false, false, false, false, false, false, false, false, false, false] rfl rfl (by kernel_rfl) (fun _ _ _ h => h) (Or.inl ⟨by rfl, ?_⟩) ?_ ?_
  rotate_left
  · intro w'
    go_simp
    with_reducible rfl
  rotate_left
  · simp only [Act.put, List.setIfInBounds_toArray, List.set_cons_zero, List.set_cons_succ, i64_w, i32_w]
    rfl
  refine pure_ (i := 12) (N := some 33) (v := ?_) (a' := ?_) #[true, true, true, true, false, true, true, true, true, true, true, false, true, false, false, false, false, false, false, false, false] rfl rfl (by kernel_rfl) (fun _ _ _ h => h) (Or.inl ⟨by rfl, ?_⟩) ?_ ?_
  rotate_left
  · intro w'
    go_simp
    with_reducible rfl
  rotate_left
  · simp only [Act.put, List.setIfInBounds_toArray, List.set_cons_zero, List.set_cons_succ, i64_w, i32_w]
    rfl
  refine take_ (i := 4) (N := some 25) (v := ?_) (a' := ?_) #[true, true, true, true, true, true, true, true, true, true, true, false, true, false, false, false, false, false, false, false, false] rfl rfl (by kernel_rfl) (fun _ _ _ h => h) (Or.inl ⟨by rfl, ?_⟩) hHeld ?_ ?_
  rotate_left
  · rintro w' ⟨s0, s1, s2⟩
    go_simp
    with_reducible rfl
  rotate_left
  · simp only [Act.put, List.setIfInBounds_toArray, List.set_cons_zero, List.set_cons_succ, i64_w, i32_w]
    rfl
  refine take_ (i := 11) (N := some 32) (v := ?_) (a' := ?_) #[true, true, true, true, true, true, true, true, true, true, true, true, true, false, false, false, false, false, false, false, false] rfl rfl (by kernel_rfl) (fun _ _ _ h => h) (Or.inl ⟨by rfl, ?_⟩) hHeld ?_ ?_
  rotate_left
  · rintro w' ⟨s0, s1, s2⟩
    go_simp
    with_reducible rfl
  rotate_left
  · simp only [Act.put, List.setIfInBounds_toArray, List.set_cons_zero, List.set_cons_succ, i64_w, i32_w]
    rfl
  refine take_ (i := 13) (N := some 34) (v := ?_) (a' := ?_) #[true, true, true, true, true, true, true, true, true, true, true, true, true, true, false, false, false, false, false, false, false] rfl rfl (by kernel_rfl) (fun _ _ _ h => h) (Or.inl ⟨by rfl, ?_⟩) hHeld ?_ ?_
  rotate_left
  · rintro w' ⟨s0, s1, s2⟩
    go_simp
    with_reducible rfl
  rotate_left
  · simp only [Act.put, List.setIfInBounds_toArray, List.set_cons_zero, List.set_cons_succ, i64_w, i32_w]
    rfl
  refine pure_ (i := 14) (N := some 35) (v := ?_) (a' := ?_) #[true, true, true, true, true, true, true, true, true, true, true, true, true, true, true, false, false, false, false, false, false] rfl rfl (by kernel_rfl) (fun _ _ _ h => h) (Or.inl ⟨by rfl, ?_⟩) ?_ ?_
  rotate_left
  · intro w'
    go_simp
    with_reducible rfl
  rotate_left
  · simp only [Act.put, List.setIfInBounds_toArray, List.set_cons_zero, List.set_cons_succ, i64_w, i32_w]
    rfl
  refine pure_ (i := 15) (N := some 36) (v := ?_) (a' := ?_) #[true, true, true, true, true, true, true, true, true, true, true, true, true, true, true, true, false, false, false, false, false] rfl rfl (by kernel_rfl) (fun _ _ _ h => h) (Or.inl ⟨by rfl, ?_⟩) ?_ ?_
  rotate_left
  · intro w'
    go_simp
    with_reducible rfl
  rotate_left
  · simp only [Act.put, List.setIfInBounds_toArray, List.set_cons_zero, List.set_cons_succ, i64_w, i32_w]
    rfl
  refine one_ (i := 16) (N := some 37) #[true, true, true, true, true, true, true, true, true, true, true, true, true, true, true, true, true, false, false, false, false] rfl rfl (by kernel_rfl) (by decide) (fun K hK => ?_)
  refine value_ (w1 := ?_) (v := ?_) (by rfl) rfl ?_ ?_
  rotate_left 2
  · go_simp
    constructor
    · rfl
    · rfl
  refine hK.out _ _ ⟨(HD3.out.drew.alloc _).cells.2.1, (HD3.out.drew.alloc _).cells.2.2, (HD3.out.drew.alloc _).look i Hi.out⟩ (fun hHeld => ?_)
  clear hK K
  refine norm_ (a' := ?_) ?_ ?_
  rotate_left
  · show Act.put _ (some 37) _ = _
    simp only [Act.put, List.setIfInBounds_toArray, List.set_cons_zero, List.set_cons_succ, i64_w, i32_w]
    rfl
  refine one_ (i := 17) (N := some 38) #[true, true, true, true, true, true, true, true, true, true, true, true, true, true, true, true, true, true, false, false, false] rfl rfl (by kernel_rfl) (by decide) (fun K hK => ?_)
  refine Kd.R_append_step kW (w0 := w3.drew) 0 (by rfl) (.tmp 25) (.tmp 37) 56 65 (.agg #[.int .i64 0, .string ByteArray.empty, .string ByteArray.empty]) 40 rfl Tryd.underlying56 infoWr (by rfl) (by decide) (by decide) v (logOf h kept) ((i : Int), t, cont h i) (wCells ((i : Int), t, cont h i)) (fun _ => True) (fun _ => False) (by rfl) (by rfl) (kW_mk _ _ _ _) (fun _ h => h.elim) (fun _ _ => trivial) HD3.out.drew.row (Below.refl _ _) (Nat.zero_le _) (by rw [logOf_length]; have := Hl.out; omega) ?_
  intro v9 w9 hr9 hb9 hg9 hat9
  rw [Hlg.out] at hr9
  have t9 := (HCs.out w9 v9 hg9 hr9).1
  have f9 := (HCs.out w9 v9 hg9 hr9).2.1
  have l9 := (HCs.out w9 v9 hg9 hr9).2.2
  obtain ⟨A9, c9, rfl⟩ := Kd.R_slice hr9
  refine hK.out _ _ ⟨t9.1, t9.2, l9⟩ (fun hHeld => ?_)
  clear hK K
  refine norm_ (a' := ?_) ?_ ?_
  rotate_left
  · show Act.put _ (some 38) _ = _
    simp only [Act.put, List.setIfInBounds_toArray, List.set_cons_zero, List.set_cons_succ, i64_w, i32_w]
    rfl
  refine pure_ (i := 18) (N := some 39) (v := ?_) (a' := ?_) #[true, true, true, true, true, true, true, true, true, true, true, true, true, true, true, true, true, true, true, false, false] rfl rfl (by kernel_rfl) (fun _ _ _ h => h) (Or.inl ⟨by rfl, ?_⟩) ?_ ?_
  rotate_left
  · intro w'
    go_simp
    with_reducible rfl
  rotate_left
  · simp only [Act.put, List.setIfInBounds_toArray, List.set_cons_zero, List.set_cons_succ, i64_w, i32_w]
    rfl
  refine pure_ (i := 19) (N := some 40) (v := ?_) (a' := ?_) #[true, true, true, true, true, true, true, true, true, true, true, true, true, true, true, true, true, true, true, true, false] rfl rfl (by kernel_rfl) (fun _ _ _ h => h) (Or.inl ⟨by rfl, ?_⟩) ?_ ?_
  rotate_left
  · intro w'
    go_simp
    with_reducible rfl
  rotate_left
  · simp only [Act.put, List.setIfInBounds_toArray, List.set_cons_zero, List.set_cons_succ, i64_w, i32_w]
    rfl
  refine last_ (i := 20) (N := none) #[true, true, true, true, true, true, true, true, true, true, true, true, true, true, true, true, true, true, true, true, true] rfl rfl (by kernel_rfl) (by decide) (fun K hK => ?_)
  refine skip_ (w1 := ?_) (by rfl) rfl ?_ ?_
  rotate_left
  · go_simp
    rfl
  refine hK.out _ _ ?_
  clear hK K
  refine done_ (by kernel_rfl) ?_
  clear hHeld hfd
  obtain ⟨v9, hv9⟩ : ∃ x, Value.slice A9 lg.length c9 = x := ⟨_, rfl⟩
  rw [hv9] at hr9 hat9
  rw [hv9]
  clear hv9
  obtain ⟨HK, HM9, HR9, HO⟩ := after_append HD3.out.drew hg9 hr9
  have HKh := Lib.hid HK
  have HRh := Lib.hid HR9
  have HOh : Hid (OnlyD p M v W (w9.setCell ⟨p, 2, none⟩ v9)) := Lib.hid ((OnlyD.of (below_drew HB3.out) (Nat.le_refl _)).trans HO (Moved.refl _ _))
  have HMv : Hid (Moved W v v9) := Lib.hid (by
    rcases hat9 with e | ⟨k, e, hk⟩
    · exact .inl e
    · exact .inr fun q hq => by rw [e] at hq; injection hq with hq; have := HB3.out.size; simp only [World.size_drew] at hk; omega)
  obtain ⟨D9, ho9, hm9⟩ := HM9
  have HKM : Hid (∃ es ck, (w9.setCell ⟨p, 2, none⟩ v9).heap[M]? = some (.map es ck)) := Lib.hid (by
    obtain ⟨es, ck, hb, _⟩ := ho9
    exact ⟨es, ck, hb⟩)
  have HP := Lib.hid (put_calls HK ho9 hm9 HD3.out.nn.2 i Hi.out t)
  have HRow : Hid (logOf (h ++ [(i, t)]) kept = lg) := Lib.hid (by rw [logOf_snoc h kept HD3.out.le i t, Hlg.out])
  obtain ⟨W9, hW9⟩ : ∃ V, w9.setCell ⟨p, 2, none⟩ v9 = V := ⟨_, rfl⟩
  rw [hW9] at HKh HRh HOh HP HKM
  have HD4 := Lib.hid HD3.out
  clear hr9 hb9 hg9 hat9 HK HR9 HO ho9 hm9 c0 c1 c2 hlk b0 t9 l9 f9
  rw [hW9]
  clear hW9
  go_wp2_with fail
  refine HP.out.mono ?_; rintro e w10 ⟨rfl, ⟨D10, ho10, hm10⟩, hg10⟩
  have HE : Hid (DkAt w10 p M v9 n (h ++ [(i, t)]) kept ∧ OnlyD p M v W w10) := Lib.hid (by
    have hpM : p ≠ M := fun e => by
      obtain ⟨es, ck, hM⟩ := HD4.out.map_blk
      have := HD4.out.blk
      rw [e, hM] at this; cases this
    have hMt : ∃ es ck, W9.heap[M]? = some (.map es ck) := HKM.out
    refine ⟨⟨(hg10.block p (blk_lt HKh.out) (fun e => hpM (by injection e))).trans HKh.out, ⟨D10, ho10, by rw [cont_snoc]; exact hm10⟩, ?_, by rw [List.length_append]; have := HD4.out.le; omega, HD4.out.good.snoc Hi.out HSl.out, HD4.out.nn⟩, ?_⟩
    · rw [HRow.out]
      refine kW_move HRh.out fun k hk => hg10.block k (Kd.R_lt HRh.out k hk) (fun e => ?_)
      obtain ⟨inner, ho⟩ := Kd.R_own HRh.out
      obtain ⟨c, hc⟩ := own_typed ho k hk
      obtain ⟨es, ck, hM⟩ := hMt
      rw [show k = M by injection e, hM] at hc; cases hc
    · exact HOh.out.trans (OnlyD.grown (v := v) hg10 (fun k hk => .inr (.inl (by injection hk with hk; exact hk.symm)))) (Moved.refl _ _))
  clear ho10 hm10 hg10
  go_wp2
  go_ret
  rw [Ht.out]
  exact ⟨rfl, ⟨v9, HE.out.1, HMv.out⟩, HE.out.2⟩
end Go.Proofs.YteooldbdilkmeaaDoor.SC

namespace Go.Proofs.YteooldbdilkmeaaDoor.SC
open Go.RowKit Go.Maps Go.Proofs.YteooldbdilkmeaaDoorW.PrintWords Go.Proofs.YteooldbdilkmeaaDoorW.PrintLast Go.Proofs.YteooldbdilkmeaaDoorW.PrintMore
set_option linter.unusedVariables false
set_option linter.unusedSimpArgs false
theorem add_mid3 (g j q : Nat) : (⟨g, 0, none⟩ : Addr).add (j * kW.sz + q) = ⟨g, j * 3 + q, none⟩ := by
  rw [Addr.add_mid, Nat.zero_add]
  rfl
theorem DkAt.at_ {W : World} {p M n kept : Nat} {v : Value} {h : Hist} (H : DkAt W p M v n h kept) (j : Nat) (hj : kept + j < h.length) :
    ∃ g c, v = .slice (some ⟨g, 0, none⟩) (h.length - kept) c ∧ W.cell? ⟨g, j * 3, none⟩ = some (.int .i64 ((h.getD (kept + j) (0, E0)).1 : Int)) ∧ W.cell? ⟨g, j * 3 + 1, none⟩ = some (.string (h.getD (kept + j) (0, E0)).2) ∧ W.cell? ⟨g, j * 3 + 2, none⟩ = some (.string (cont (h.take (kept + j)) (h.getD (kept + j) (0, E0)).1)) := by
  have hl := logOf_length h kept
  obtain ⟨g, c, hv, _⟩ := Kd.R_form H.row (by omega)
  obtain ⟨A, c2, hv2, _, hC⟩ := Kd.R_reads H.row
  rw [hv] at hv2
  injection hv2 with hA
  subst hA
  obtain ⟨ad, cs, had, hcl, hK, hcell⟩ := Kd.C_get hC (0, E0, E0) (j : Int) (by omega) (by omega)
  injection had with had
  subst had
  obtain rfl := kW_open hK
  have he : (logOf h kept).getD (j : Int).toNat (0, E0, E0) = entry h (kept + j) := by
    rw [Int.toNat_natCast, List.getD_eq_getElem?_getD]
    unfold logOf
    rw [List.getElem?_map, List.getElem?_range (by omega)]
    rfl
  rw [he, Int.toNat_natCast] at hcell
  refine ⟨g, c, by rw [hv, hl], ?_, ?_, ?_⟩
  · have := hcell 0 _ rfl
    unfold entry at this
    rwa [add_mid3] at this
  · have := hcell 1 _ rfl
    unfold entry at this
    rwa [add_mid3] at this
  · have := hcell 2 _ rfl
    unfold entry at this
    rwa [add_mid3] at this
end Go.Proofs.YteooldbdilkmeaaDoor.SC

namespace Go.Proofs.YteooldbdilkmeaaDoor.SC
open Go.RowKit Go.Maps Go.Proofs.YteooldbdilkmeaaDoorW.PrintWords Go.Proofs.YteooldbdilkmeaaDoorW.PrintLast Go.Proofs.YteooldbdilkmeaaDoorW.PrintMore
set_option linter.unusedVariables false
set_option linter.unusedSimpArgs false
theorem mclone_calls {W : World} {M n : Nat} {D : DataW Unit} (ho : W.ownsMap Tryd.prog 3 heldE M n D) :
    Calls Tryd.prog 33 #[.map (some M)] W fun e w' => e = .returned (.map (some W.heap.size)) ∧ w'.ownsMap Tryd.prog 3 heldE W.heap.size n D ∧ Below W.heap.size W w' := by
  obtain ⟨es, clock, hb, F, hs, hD⟩ := ho
  refine (Tryd.maps_Clone_any M es clock W hb).mono fun e w' ⟨h1, h2⟩ => ⟨h1, ?_, ?_⟩
  · subst h2
    exact ⟨es, clock, (MapKept.heap_alloc W _).1, F, hs, hD⟩
  · subst h2
    exact below_alloc (Below.refl _ _) _
set_option maxHeartbeats 4000000 in
set_option maxRecDepth 100000 in
theorem cut_calls {W : World} {p M n kept : Nat} {v : Value} {h : Hist} (H : DkAt W p M v n h kept) (hl : h.length ≤ 1000000) (k : Nat) (hk : kept + k ≤ h.length) :
    Calls Tryd.prog 16 #[.pointer (some ⟨p, 0, none⟩), .int .i64 (k : Int)] W fun e w' => ∃ pc Mc, e = .returned (.tuple #[.pointer (some ⟨pc, 0, none⟩), .int .i64 0]) ∧ DkAt w' pc Mc (.slice none 0 0) n (h.take (kept + k)) (kept + k) ∧ W.heap.size ≤ pc ∧ W.heap.size ≤ Mc ∧ Below W.heap.size W w' := by
  have HD := Lib.hid H
  have HC := Lib.hid (check_calls H 0)
  rw [show chk n 0 = 0 from if_pos (by have := H.nn; omega)] at HC
  obtain ⟨A0, cap0, hv⟩ := H.log_slice
  obtain ⟨m, hm⟩ : ∃ m, h.length - kept = m := ⟨_, rfl⟩
  have Hm := Lib.hid hm
  have Hl := Lib.hid hl
  have Hk := Lib.hid hk
  have HNN := Lib.hid H.nn
  have HMm : Hid (kept + m = h.length) := Lib.hid (by have := H.le; omega)
  have hd : decide ((m : Int) < (k : Int)) = false := decide_eq_false (by omega)
  have hd0 : decide ((k : Int) < 0) = false := decide_eq_false (by omega)
  have hdn : decide (m < k) = false := decide_eq_false (by omega)
  rw [hm] at hv
  subst hv
  clear H hm hl hk
  go_enter Tryd.func16, Tryd.ntmps16
  go_wp2_with fail
  refine HC.out.mono ?_; rintro e w1 ⟨rfl, hb1⟩
  have HD1 := Lib.hid (HD.out.below hb1 (Nat.le_refl _))
  have HB1 := Lib.hid hb1
  obtain ⟨c0, c1, c2⟩ := HD1.out.cells
  obtain ⟨D, ho, hmi⟩ := HD1.out.map
  have HCl := Lib.hid (mclone_calls (W := w1.drew) ho)
  have HMi := Lib.hid hmi
  clear hb1 ho hmi HC
  go_upto_region 6 with fail
  refine start_ (n := 12) (S := fun w' => w'.cell? ⟨p, 0, none⟩ = some (.int .i64 (n : Int)) ∧ w'.cell? ⟨p, 1, none⟩ = some (.map (some M))) (ds := []) #[false, false, false, false, false, false, false, false, false, false, false, false] (by kernel_rfl) rfl rfl ⟨HD1.out.drew.cells.1, HD1.out.drew.cells.2.1⟩ (fun hHeld => ?_)
  refine pure_ (i := 0) (N := some 25) (v := ?_) (a' := ?_) #[true, false, false, false, false, false, false, false, false, false, false, false] rfl rfl (by kernel_rfl) (fun _ _ _ h => h) (Or.inl ⟨by rfl, ?_⟩) ?_ ?_
  rotate_left
  · intro w'
    go_simp
    with_reducible rfl
  rotate_left
  · simp only [Act.put, List.setIfInBounds_toArray, List.set_cons_zero, List.set_cons_succ, i64_w, i32_w]
    rfl
  refine pure_ (i := 1) (N := some 26) (v := ?_) (a' := ?_) #[true, true, false, false, false, false, false, false, false, false, false, false] rfl rfl (by kernel_rfl) (fun _ _ _ h => h) (Or.inl ⟨by rfl, ?_⟩) ?_ ?_
  rotate_left
  · intro w'
    go_simp
    with_reducible rfl
  rotate_left
  · simp only [Act.put, List.setIfInBounds_toArray, List.set_cons_zero, List.set_cons_succ, i64_w, i32_w]
    rfl
  refine pure_ (i := 2) (N := some 27) (v := ?_) (a' := ?_) #[true, true, true, false, false, false, false, false, false, false, false, false] rfl rfl (by kernel_rfl) (fun _ _ _ h => h) (Or.inl ⟨by rfl, ?_⟩) ?_ ?_
  rotate_left
  · intro w'
    go_simp
    with_reducible rfl
  rotate_left
  · simp only [Act.put, List.setIfInBounds_toArray, List.set_cons_zero, List.set_cons_succ, i64_w, i32_w]
    rfl
  refine pure_ (i := 4) (N := some 29) (v := ?_) (a' := ?_) #[true, true, true, false, true, false, false, false, false, false, false, false] rfl rfl (by kernel_rfl) (fun _ _ _ h => h) (Or.inl ⟨by rfl, ?_⟩) ?_ ?_
  rotate_left
  · intro w'
    go_simp
    with_reducible rfl
  rotate_left
  · simp only [Act.put, List.setIfInBounds_toArray, List.set_cons_zero, List.set_cons_succ, i64_w, i32_w]
    rfl
  refine pure_ (i := 5) (N := some 30) (v := ?_) (a' := ?_) #[true, true, true, false, true, true, false, false, false, false, false, false] rfl rfl (by kernel_rfl) (fun _ _ _ h => h) (Or.inl ⟨by rfl, ?_⟩) ?_ ?_
  rotate_left
  · intro w'
    go_simp
    with_reducible rfl
  rotate_left
  · simp only [Act.put, List.setIfInBounds_toArray, List.set_cons_zero, List.set_cons_succ, i64_w, i32_w]
    rfl
  refine pure_ (i := 6) (N := some 31) (v := ?_) (a' := ?_) #[true, true, true, false, true, true, true, false, false, false, false, false] rfl rfl (by kernel_rfl) (fun _ _ _ h => h) (Or.inl ⟨by rfl, ?_⟩) ?_ ?_
  rotate_left
  · intro w'
    go_simp
    with_reducible rfl
  rotate_left
  · simp only [Act.put, List.setIfInBounds_toArray, List.set_cons_zero, List.set_cons_succ, i64_w, i32_w]
    rfl
  refine take_ (i := 3) (N := some 28) (v := ?_) (a' := ?_) #[true, true, true, true, true, true, true, false, false, false, false, false] rfl rfl (by kernel_rfl) (fun _ _ _ h => h) (Or.inl ⟨by rfl, ?_⟩) hHeld ?_ ?_
  rotate_left
  · rintro w' ⟨s0, s1⟩
    go_simp
    with_reducible rfl
  rotate_left
  · simp only [Act.put, List.setIfInBounds_toArray, List.set_cons_zero, List.set_cons_succ, i64_w, i32_w]
    rfl
  refine take_ (i := 7) (N := some 32) (v := ?_) (a' := ?_) #[true, true, true, true, true, true, true, true, false, false, false, false] rfl rfl (by kernel_rfl) (fun _ _ _ h => h) (Or.inl ⟨by rfl, ?_⟩) hHeld ?_ ?_
  rotate_left
  · rintro w' ⟨s0, s1⟩
    go_simp
    with_reducible rfl
  rotate_left
  · simp only [Act.put, List.setIfInBounds_toArray, List.set_cons_zero, List.set_cons_succ, i64_w, i32_w]
    rfl
  refine one_ (i := 8) (N := some 33) #[true, true, true, true, true, true, true, true, true, false, false, false] rfl rfl (by kernel_rfl) (by decide) (fun K hK => ?_)
  refine goes_ Tryd.func33 (by kernel_rfl) rfl #[.map (some M)] (by rfl) rfl rfl (by simp only [List.map_toArray, List.map_cons, List.map_nil]; rfl) ?_
  with_reducible refine (HCl.out).mono ?_
  rintro e w3 ⟨rfl, ho3, hb3⟩
  refine ⟨_, rfl, ?_⟩
  have HD3 := Lib.hid (HD1.out.drew.below hb3 (Nat.le_refl _))
  have HB3 := Lib.hid (below_step (below_drew HB1.out) hb3)
  have HO3 := Lib.hid ho3
  clear ho3 hb3
  refine hK.out _ _ ⟨HD3.out.cells.1, HD3.out.cells.2.1⟩ (fun hHeld => ?_)
  clear hK K
  refine norm_ (a' := ?_) ?_ ?_
  rotate_left
  · show Act.put _ (some 33) _ = _
    simp only [Act.put, List.setIfInBounds_toArray, List.set_cons_zero, List.set_cons_succ, i64_w, i32_w]
    rfl
  refine pure_ (i := 9) (N := some 34) (v := ?_) (a' := ?_) #[true, true, true, true, true, true, true, true, true, true, false, false] rfl rfl (by kernel_rfl) (fun _ _ _ h => h) (Or.inl ⟨by rfl, ?_⟩) ?_ ?_
  rotate_left
  · intro w'
    go_simp
    with_reducible rfl
  rotate_left
  · simp only [Act.put, List.setIfInBounds_toArray, List.set_cons_zero, List.set_cons_succ, i64_w, i32_w]
    rfl
  refine one_ (i := 10) (N := some 35) #[true, true, true, true, true, true, true, true, true, true, true, false] rfl rfl (by kernel_rfl) (by decide) (fun K hK => ?_)
  refine value_ (w1 := ?_) (v := ?_) (by rfl) rfl ?_ ?_
  rotate_left 2
  · go_simp
    constructor
    · rfl
    · rfl
  refine hK.out _ _ ⟨(HD3.out.alloc _).cells.1, (HD3.out.alloc _).cells.2.1⟩ (fun hHeld => ?_)
  clear hK K
  refine norm_ (a' := ?_) ?_ ?_
  rotate_left
  · show Act.put _ (some 35) _ = _
    simp only [Act.put, List.setIfInBounds_toArray, List.set_cons_zero, List.set_cons_succ, i64_w, i32_w]
    rfl
  refine pure_ (i := 11) (N := some 7) (v := ?_) (a' := ?_) #[true, true, true, true, true, true, true, true, true, true, true, true] rfl rfl (by kernel_rfl) (fun _ _ _ h => h) (Or.inl ⟨by rfl, ?_⟩) ?_ ?_
  rotate_left
  · intro w'
    go_simp
    with_reducible rfl
  rotate_left
  · simp only [Act.put, List.setIfInBounds_toArray, List.set_cons_zero, List.set_cons_succ, i64_w, i32_w]
    rfl
  refine done_ (by kernel_rfl) ?_
  clear hHeld
  obtain ⟨Mc, hMc⟩ : ∃ x, w1.heap.size = x := ⟨_, rfl⟩
  obtain ⟨pc, hpc⟩ : ∃ x, w3.heap.size = x := ⟨_, rfl⟩
  have hsz : w1.drew.heap.size = w1.heap.size := rfl
  have HMc : Hid (W.heap.size ≤ Mc) := Lib.hid (by rw [← hMc]; exact HB1.out.size)
  have HPc : Hid (W.heap.size ≤ pc) := Lib.hid (by rw [← hpc]; exact HB3.out.size)
  rw [hsz, hMc] at HO3
  rw [hsz, hMc, hpc]
  have HKc : Hid ((w3.alloc (.cells #[.int .i64 (n : Int), .map (some Mc), .slice none 0 0] 58)).heap[pc]? = some (.cells #[.int .i64 (n : Int), .map (some Mc), .slice none 0 0] 58 (0, 0))) := Lib.hid (by rw [← hpc]; exact blk_new w3 _)
  have HOc := Lib.hid (HO3.out.alloc (.cells #[.int .i64 (n : Int), .map (some Mc), .slice none 0 0] 58))
  have HBc := Lib.hid (below_alloc HB3.out (.cells #[.int .i64 (n : Int), .map (some Mc), .slice none 0 0] 58))
  obtain ⟨W4, hW4⟩ : ∃ V, w3.alloc (.cells #[.int .i64 (n : Int), .map (some Mc), .slice none 0 0] 58) = V := ⟨_, rfl⟩
  rw [hW4] at HKc HOc HBc
  rw [hW4]
  have HD4 := Lib.hid (HD.out.below HBc.out (Nat.le_refl _))
  obtain ⟨c0, c1, c2⟩ := HD4.out.cells
  have hwm : wrap64 ((m : Int) - 1) = (m : Int) - 1 := by have := HMm.out; have := Hl.out; unfold wrap64; omega
  generalize Value.agg #[.int .i64 (n : Int), .map (some Mc), .slice none 0 0] = ua
  clear hW4 hMc hpc hsz HO3 HB3 HD3 HCl HB1 HD1
  go_wp2_with fail
  have Hwm := Lib.hid hwm
  clear c0 c1 c2 hwm
  go_loopw [8] (fun iv V => ∃ (q : Nat) (x : Int), k ≤ q ∧ q ≤ m ∧ iv = .int .i64 x ∧ x + 1 = (q : Int) ∧ Aside0 (V.heap[pc]? = some (.cells #[.int .i64 (n : Int), .map (some Mc), .slice none 0 0] 58 (0, 0))) ∧ Aside0 (∃ D, V.ownsMap Tryd.prog 3 heldE Mc n D ∧ MapIs D n (cont (h.take (kept + q)))) ∧ Aside0 (Below W.heap.size W V)) (fun iv _ => (ixOf iv + 1).toNat)
  case atStart => exact ⟨m, wrap64 ((m : Int) - 1), by have := Hk.out; have := HMm.out; omega, Nat.le_refl _, by rfl, by rw [Hwm.out]; omega, ⟨HKc.out⟩, ⟨D, HOc.out, HMi.out.congr (by rw [HMm.out, List.take_length])⟩, ⟨HBc.out⟩⟩
  case round =>
    obtain ⟨q, x, hkq, hqm, rfl, hx, ⟨hkc⟩, ⟨hoc⟩, ⟨hb⟩⟩ := hrel
    have HKj := Lib.hid hkc
    have HOj := Lib.hid hoc
    have HBj := Lib.hid hb
    clear hkc hoc hb HKc HOc HBc HD4
    have HDj := Lib.hid (HD.out.below HBj.out (Nat.le_refl _))
    by_cases hlt : k < q
    · obtain ⟨r, rfl⟩ : ∃ r, q = r + 1 := ⟨q - 1, by omega⟩
      obtain rfl : x = (r : Int) := by omega
      have hd := decide_eq_true (show (k : Int) ≤ (r : Int) by omega)
      have hdn : decide (k ≤ r) = true := decide_eq_true (by omega)
      have HK : Hid (kept + r < h.length) := Lib.hid (by have := HMm.out; omega)
      obtain ⟨g, cc, hA, q0, q1, q2⟩ := HDj.out.at_ r HK.out
      have hA0 := (Value.slice.inj hA).1
      clear hA
      subst hA0
      have HIn := Lib.hid (HD.out.good _ (by rw [List.getD_eq_getElem?_getD, List.getElem?_eq_getElem HK.out]; exact List.getElem_mem _ : h.getD (kept + r) (0, E0) ∈ h))
      have HBk : Hid (upd (cont (h.take (kept + (r + 1)))) (h.getD (kept + r) (0, E0)).1 (cont (h.take (kept + r)) (h.getD (kept + r) (0, E0)).1) = cont (h.take (kept + r))) := Lib.hid (by
        have := cont_back h (kept + r) HK.out
        rw [List.getD_eq_getElem?_getD, List.getElem?_eq_getElem HK.out]
        exact this)
      obtain ⟨a, ha⟩ : ∃ a : Nat, (h.getD (kept + r) (0, E0)).1 = a := ⟨_, rfl⟩
      obtain ⟨z, hz⟩ : ∃ z : ByteArray, cont (h.take (kept + r)) a = z := ⟨_, rfl⟩
      rw [ha] at q0 q2 HIn HBk
      rw [hz] at q2 HBk
      obtain ⟨c0, c1, c2⟩ := HDj.out.cells
      obtain ⟨Dj, hoj, hmj⟩ := HOj.out
      have HMo : Hid (∃ es ck, wr.heap[Mc]? = some (.map es ck)) := Lib.hid (by
        obtain ⟨es, ck, hb, _⟩ := hoj
        exact ⟨es, ck, hb⟩)
      have HP := Lib.hid (fun V (hbl : Below wr.heap.size wr V) => put_calls (W := V) ((hbl.block pc (blk_lt HKj.out)).trans HKj.out) (ownsMap_move hoj (hbl.block Mc hoj.lt)) hmj HNN.out.2 a HIn.out.1 z)
      have p1 : (0 ≤ (r : Int)) = True := eq_true (by omega)
      have p2 : ((r : Int) < (m : Int)) = True := eq_true (by omega)
      have hnx : wrap64 ((r : Int) - 1) = (r : Int) - 1 := by have := HMm.out; have := Hl.out; clear hd p1 p2; unfold wrap64; omega
      have Hlt : Hid (k ≤ r ∧ r ≤ m) := Lib.hid (by omega)
      have Hnx := Lib.hid hnx
      clear ha hz hlt hkq hqm hx hnx hoj hmj q1
      go_upto_region 10 with fail
      refine start_ (n := 19) (S := fun w' => w'.cell? ⟨p, 2, none⟩ = some (.slice (some ⟨g, 0, none⟩) m cap0) ∧ w'.cell? ⟨g, r * 3, none⟩ = some (.int .i64 (a : Int)) ∧ w'.cell? ⟨g, r * 3 + 2, none⟩ = some (.string z)) (ds := [18]) #[false, false, false, false, false, false, false, false, false, false, false, false, false, false, false, false, false, false, false] (by kernel_rfl) rfl rfl ⟨c2, q0, q2⟩ (fun hHeld => ?_)
      refine pure_ (i := 0) (N := some 47) (v := ?_) (a' := ?_) #[true, false, false, false, false, false, false, false, false, false, false, false, false, false, false, false, false, false, false] rfl rfl (by kernel_rfl) (fun _ _ _ h => h) (Or.inl ⟨by rfl, ?_⟩) ?_ ?_
      rotate_left
      · intro w'
        go_simp
        with_reducible rfl
      rotate_left
      · simp only [Act.put, List.setIfInBounds_toArray, List.set_cons_zero, List.set_cons_succ, i64_w, i32_w]
        rfl
      refine pure_ (i := 1) (N := some 48) (v := ?_) (a' := ?_) #[true, true, false, false, false, false, false, false, false, false, false, false, false, false, false, false, false, false, false] rfl rfl (by kernel_rfl) (fun _ _ _ h => h) (Or.inl ⟨by rfl, ?_⟩) ?_ ?_
      rotate_left
      · intro w'
        go_simp
        with_reducible rfl
      rotate_left
      · simp only [Act.put, List.setIfInBounds_toArray, List.set_cons_zero, List.set_cons_succ, i64_w, i32_w]
        rfl
      refine pure_ (i := 2) (N := some 49) (v := ?_) (a' := ?_) #[true, true, true, false, false, false, false, false, false, false, false, false, false, false, false, false, false, false, false] rfl rfl (by kernel_rfl) (fun _ _ _ h => h) (Or.inl ⟨by rfl, ?_⟩) ?_ ?_
      rotate_left
      · intro w'
        go_simp
        with_reducible rfl
      rotate_left
      · simp only [Act.put, List.setIfInBounds_toArray, List.set_cons_zero, List.set_cons_succ, i64_w, i32_w]
        rfl
      refine pure_ (i := 3) (N := some 50) (v := ?_) (a' := ?_) #[true, true, true, true, false, false, false, false, false, false, false, false, false, false, false, false, false, false, false] rfl rfl (by kernel_rfl) (fun _ _ _ h => h) (Or.inl ⟨by rfl, ?_⟩) ?_ ?_
      rotate_left
      · intro w'
        go_simp
        with_reducible rfl
      rotate_left
      · simp only [Act.put, List.setIfInBounds_toArray, List.set_cons_zero, List.set_cons_succ, i64_w, i32_w]
        rfl
      refine pure_ (i := 5) (N := some 52) (v := ?_) (a' := ?_) #[true, true, true, true, false, true, false, false, false, false, false, false, false, false, false, false, false, false, false] rfl rfl (by kernel_rfl) (fun _ _ _ h => h) (Or.inl ⟨by rfl, ?_⟩) ?_ ?_
      rotate_left
      · intro w'
        go_simp
        with_reducible rfl
      rotate_left
      · simp only [Act.put, List.setIfInBounds_toArray, List.set_cons_zero, List.set_cons_succ, i64_w, i32_w]
        rfl
      refine pure_ (i := 10) (N := some 57) (v := ?_) (a' := ?_) #[true, true, true, true, false, true, false, false, false, false, true, false, false, false, false, false, false, false, false] rfl rfl (by kernel_rfl) (fun _ _ _ h => h) (Or.inl ⟨by rfl, ?_⟩) ?_ ?_
      rotate_left
      · intro w'
        go_simp
        with_reducible rfl
      rotate_left
      · simp only [Act.put, List.setIfInBounds_toArray, List.set_cons_zero, List.set_cons_succ, i64_w, i32_w]
        rfl
      refine pure_ (i := 11) (N := some 58) (v := ?_) (a' := ?_) #[true, true, true, true, false, true, false, false, false, false, true, true, false, false, false, false, false, false, false] rfl rfl (by kernel_rfl) (fun _ _ _ h => h) (Or.inl ⟨by rfl, ?_⟩) ?_ ?_
      rotate_left
      · intro w'
        go_simp
        with_reducible rfl
      rotate_left
      · simp only [Act.put, List.setIfInBounds_toArray, List.set_cons_zero, List.set_cons_succ, i64_w, i32_w]
        rfl
      refine pure_ (i := 12) (N := some 59) (v := ?_) (a' := ?_) #[true, true, true, true, false, true, false, false, false, false, true, true, true, false, false, false, false, false, false] rfl rfl (by kernel_rfl) (fun _ _ _ h => h) (Or.inl ⟨by rfl, ?_⟩) ?_ ?_
      rotate_left
      · intro w'
        go_simp
        with_reducible rfl
      rotate_left
      · simp only [Act.put, List.setIfInBounds_toArray, List.set_cons_zero, List.set_cons_succ, i64_w, i32_w]
        rfl
      refine pure_ (i := 14) (N := some 61) (v := ?_) (a' := ?_) #[true, true, true, true, false, true, false, false, false, false, true, true, true, false, true, false, false, false, false] rfl rfl (by kernel_rfl) (fun _ _ _ h => h) (Or.inl ⟨by rfl, ?_⟩) ?_ ?_
      rotate_left
      · intro w'
        go_simp
        with_reducible rfl
      rotate_left
      · simp only [Act.put, List.setIfInBounds_toArray, List.set_cons_zero, List.set_cons_succ, i64_w, i32_w]
        rfl
      refine take_ (i := 4) (N := some 51) (v := ?_) (a' := ?_) #[true, true, true, true, true, true, false, false, false, false, true, true, true, false, true, false, false, false, false] rfl rfl (by kernel_rfl) (fun _ _ _ h => h) (Or.inl ⟨by rfl, ?_⟩) hHeld ?_ ?_
      rotate_left
      · rintro w' ⟨s0, s1, s2⟩
        go_simp
        with_reducible rfl
      rotate_left
      · simp only [Act.put, List.setIfInBounds_toArray, List.set_cons_zero, List.set_cons_succ, i64_w, i32_w]
        rfl
      refine pure_ (i := 6) (N := some 53) (v := ?_) (a' := ?_) #[true, true, true, true, true, true, true, false, false, false, true, true, true, false, true, false, false, false, false] rfl rfl (by kernel_rfl) (fun _ _ _ h => h) (Or.inl ⟨by rfl, ?_⟩) ?_ ?_
      rotate_left
      · intro w'
        go_simp
        with_reducible rfl
      rotate_left
      · simp only [Act.put, List.setIfInBounds_toArray, List.set_cons_zero, List.set_cons_succ, i64_w, i32_w]
        rfl
      refine pure_ (i := 7) (N := some 54) (v := ?_) (a' := ?_) #[true, true, true, true, true, true, true, true, false, false, true, true, true, false, true, false, false, false, false] rfl rfl (by kernel_rfl) (fun _ _ _ h => h) (Or.inl ⟨by rfl, ?_⟩) ?_ ?_
      rotate_left
      · intro w'
        go_simp
        with_reducible rfl
      rotate_left
      · simp only [Act.put, List.setIfInBounds_toArray, List.set_cons_zero, List.set_cons_succ, i64_w, i32_w]
        rfl
      refine pure_ (i := 8) (N := some 55) (v := ?_) (a' := ?_) #[true, true, true, true, true, true, true, true, true, false, true, true, true, false, true, false, false, false, false] rfl rfl (by kernel_rfl) (fun _ _ _ h => h) (Or.inl ⟨by rfl, ?_⟩) ?_ ?_
      rotate_left
      · intro w'
        go_simp
        with_reducible rfl
      rotate_left
      · simp only [Act.put, List.setIfInBounds_toArray, List.set_cons_zero, List.set_cons_succ, i64_w, i32_w]
        rfl
      refine take_ (i := 9) (N := some 56) (v := ?_) (a' := ?_) #[true, true, true, true, true, true, true, true, true, true, true, true, true, false, true, false, false, false, false] rfl rfl (by kernel_rfl) (fun _ _ _ h => h) (Or.inl ⟨by rfl, ?_⟩) hHeld ?_ ?_
      rotate_left
      · rintro w' ⟨s0, s1, s2⟩
        go_simp
        with_reducible rfl
      rotate_left
      · simp only [Act.put, List.setIfInBounds_toArray, List.set_cons_zero, List.set_cons_succ, i64_w, i32_w]
        rfl
      refine take_ (i := 13) (N := some 60) (v := ?_) (a' := ?_) #[true, true, true, true, true, true, true, true, true, true, true, true, true, true, true, false, false, false, false] rfl rfl (by kernel_rfl) (fun _ _ _ h => h) (Or.inl ⟨by rfl, ?_⟩) hHeld ?_ ?_
      rotate_left
      · rintro w' ⟨s0, s1, s2⟩
        go_simp
        with_reducible rfl
      rotate_left
      · simp only [Act.put, List.setIfInBounds_toArray, List.set_cons_zero, List.set_cons_succ, i64_w, i32_w]
        rfl
      refine pure_ (i := 15) (N := some 62) (v := ?_) (a' := ?_) #[true, true, true, true, true, true, true, true, true, true, true, true, true, true, true, true, false, false, false] rfl rfl (by kernel_rfl) (fun _ _ _ h => h) (Or.inl ⟨by rfl, ?_⟩) ?_ ?_
      rotate_left
      · intro w'
        go_simp
        with_reducible rfl
      rotate_left
      · simp only [Act.put, List.setIfInBounds_toArray, List.set_cons_zero, List.set_cons_succ, i64_w, i32_w]
        rfl
      refine pure_ (i := 16) (N := some 63) (v := ?_) (a' := ?_) #[true, true, true, true, true, true, true, true, true, true, true, true, true, true, true, true, true, false, false] rfl rfl (by kernel_rfl) (fun _ _ _ h => h) (Or.inl ⟨by rfl, ?_⟩) ?_ ?_
      rotate_left
      · intro w'
        go_simp
        with_reducible rfl
      rotate_left
      · simp only [Act.put, List.setIfInBounds_toArray, List.set_cons_zero, List.set_cons_succ, i64_w, i32_w]
        rfl
      refine take_ (i := 17) (N := some 64) (v := ?_) (a' := ?_) #[true, true, true, true, true, true, true, true, true, true, true, true, true, true, true, true, true, true, false] rfl rfl (by kernel_rfl) (fun _ _ _ h => h) (Or.inl ⟨by rfl, ?_⟩) hHeld ?_ ?_
      rotate_left
      · rintro w' ⟨s0, s1, s2⟩
        go_simp
        with_reducible rfl
      rotate_left
      · simp only [Act.put, List.setIfInBounds_toArray, List.set_cons_zero, List.set_cons_succ, i64_w, i32_w]
        rfl
      refine last_ (i := 18) (N := some 65) #[true, true, true, true, true, true, true, true, true, true, true, true, true, true, true, true, true, true, true] rfl rfl (by kernel_rfl) (by decide) (fun K hK => ?_)
      refine goes_ Tryd.func32 (by kernel_rfl) rfl #[.pointer (some ⟨pc, 0, none⟩), .int .i64 (a : Int), .string z] (by rfl) rfl rfl (by simp only [List.map_toArray, List.map_cons, List.map_nil]; rfl) ?_
      with_reducible refine (HP.out _ (below_drew (Below.refl _ _))).mono ?_
      rintro e w7 ⟨rfl, ⟨D7, ho7, hm7⟩, hg7⟩
      refine ⟨_, rfl, ?_⟩
      refine hK.out _ _ ?_
      clear hK K
      refine norm_ (a' := ?_) ?_ ?_
      rotate_left
      · show Act.put _ (some 65) _ = _
        simp only [Act.put, List.setIfInBounds_toArray, List.set_cons_zero, List.set_cons_succ, i64_w, i32_w]
        rfl
      refine done_ (by kernel_rfl) ?_
      have hnx := Hnx.out
      have HK7 : Hid (w7.heap[pc]? = some (.cells #[.int .i64 (n : Int), .map (some Mc), .slice none 0 0] 58 (0, 0))) := Lib.hid ((hg7.block pc (blk_lt HKj.out) (fun e => by
        have e2 : pc = Mc := by injection e
        obtain ⟨es, ck, hM, _⟩ := ho7
        have hM0 := HMo.out
        obtain ⟨es0, ck0, hM0⟩ := hM0
        have := HKj.out
        rw [e2, hM0] at this; cases this)).trans HKj.out)
      have HO7 : Hid (∃ D, w7.ownsMap Tryd.prog 3 heldE Mc n D ∧ MapIs D n (cont (h.take (kept + r)))) := Lib.hid ⟨D7, ho7, hm7.congr HBk.out⟩
      have HB7 : Hid (Below W.heap.size W w7) := Lib.hid ((below_drew HBj.out).grown hg7 HBj.out.size (fun k hk => by injection hk with hk; rw [← hk]; exact HMc.out))
      clear hHeld ho7 hm7 hg7 q0 q2 c0 c1 c2 p1 p2
      go_wp2
      go_roundw
      case rel => exact ⟨r, wrap64 ((r : Int) - 1), Hlt.out.1, Hlt.out.2, by first | rfl | (rw [hnx]), by rw [hnx]; omega, ⟨HK7.out⟩, ⟨HO7.out⟩, ⟨HB7.out⟩⟩
      case measure => have h1 := Hlt.out; first | (rw [hnx]; simp [ixOf, Go.RowKit.intOf]; omega) | (simp [ixOf, Go.RowKit.intOf]; omega)
    · obtain rfl : q = k := by omega
      have hd : decide ((q : Int) ≤ x) = false := decide_eq_false (by omega)
      have HF : Hid (DkAt wr pc Mc (.slice none 0 0) n (h.take (kept + q)) (kept + q)) := Lib.hid (by
        obtain ⟨Dj, hoj, hmj⟩ := HOj.out
        refine ⟨HKj.out, ⟨Dj, hoj, hmj⟩, ?_, by rw [List.length_take]; have := Hk.out; omega, HD.out.good.take _, HNN.out⟩
        have : (h.take (kept + q)).length = kept + q := by rw [List.length_take]; have := Hk.out; omega
        rw [show logOf (h.take (kept + q)) (kept + q) = [] by unfold logOf; rw [this, Nat.sub_self]; rfl]
        exact Kd.R_nil _ _ _ _ _)
      clear hlt hkq hqm hx
      go_wp2
      go_ret2
      exact ⟨pc, Mc, rfl, HF.out, HPc.out, HMc.out, HBj.out⟩
end Go.Proofs.YteooldbdilkmeaaDoor.SC

namespace Go.Proofs.YteooldbdilkmeaaDoor.SC
open Go.RowKit Go.Maps Go.Proofs.YteooldbdilkmeaaDoorW.PrintWords Go.Proofs.YteooldbdilkmeaaDoorW.PrintLast Go.Proofs.YteooldbdilkmeaaDoorW.PrintMore
set_option linter.unusedVariables false
set_option linter.unusedSimpArgs false
theorem slice_nil (W : World) (a : Option Addr) (n c n' c' : Nat) : (binOp .eql 56 (.slice a n c) (.slice none n' c')).run Tryd.prog W = .ok (.bool a.isNone) W := Lib.run_eql_slice_nil W _ _ a n c n' c' Tryd.underlying56
set_option maxHeartbeats 1000000 in
set_option maxRecDepth 100000 in
theorem sclone_calls {W : World} {v : Value} {xs : List Wr} (hr : kW.R 65 W 0 (fun _ => True) v xs) (hl : xs.length ≤ 1000000) :
    Calls Tryd.prog 34 #[v] W fun e w' => ∃ u, e = .returned u ∧ kW.R 65 w' W.heap.size (fun _ => True) u xs ∧ Below W.heap.size W w' := by
  obtain ⟨inner, ho⟩ := Kd.R_own hr
  rcases ho.2 with ⟨rfl, h0⟩ | ⟨g, cap, cur, rfl, _, _, hc, _⟩
  · obtain rfl : xs = [] := List.eq_nil_of_length_eq_zero h0
    clear hr ho h0 hl
    have hsn := slice_nil
    go_enter Tryd.func34, Tryd.ntmps34
    go_wp2
    go_ret
    exact ⟨_, rfl, Kd.R_nil _ _ _ _ _, Below.refl _ _⟩
  · obtain ⟨A, c2, hv, _, hC⟩ := Kd.R_reads hr
    have hA0 := (Value.slice.inj hv).1
    subst hA0
    have HC := Lib.hid hC
    have Hl := Lib.hid hl
    obtain ⟨m, hm⟩ : ∃ m, xs.length = m := ⟨_, rfl⟩
    have Hm := Lib.hid hm
    rw [hm] at HC
    clear hr ho hv hC hl hc
    rw [hm]
    clear hm
    have hsn := slice_nil
    go_enter Tryd.func34, Tryd.ntmps34
    have HB0 := Lib.hid (below_alloc (Below.refl W.heap.size W) (.cells #[] 65))
    have HC1 := Lib.hid (Kd.C_alloc HC.out (.cells #[] 65))
    have HR0 : Hid (kW.R 65 (W.alloc (.cells #[] 65)) W.heap.size (fun _ => True) (.slice (some ⟨W.heap.size, 0, none⟩) 0 0) []) := Lib.hid ⟨fun _ _ => trivial, [], ⟨rfl, .inr ⟨W.heap.size, 0, #[], rfl, Nat.le_refl _, blk_new W _, Nat.le_refl _, by decide, rfl, rfl⟩⟩, ⟨rfl, fun j p hj => by cases hj⟩⟩
    go_wp2_with (at_builtin; refine Kd.R_append_rows kW (Rr := kW.K (W.alloc (.cells #[] 65))) (w0 := W) W.heap.size rfl (.tmp 5) (.tmp 6) 56 65 (.agg #[.int .i64 0, .string ByteArray.empty, .string ByteArray.empty]) 40 rfl Tryd.underlying56 infoWr rfl (by decide) (by decide) (.slice (some ⟨W.heap.size, 0, none⟩) 0 0) [] xs (some ⟨g, 0, none⟩) m cap (fun _ => True) (fun _ => False) rfl rfl HR0.out HC1.out (fun x cs hk => by rw [kW_open hk]; exact kW_mk _ _ _ _) (fun _ hk => hk.elim) (fun _ _ => trivial) HB0.out HB0.out.size (by have := Hl.out; have := Hm.out; simp only [List.length_nil]; omega) ?_; intro v9 w9 hr9 hb9 hg9 hat9; have HR9 := Lib.hid hr9; have HB9 := Lib.hid hb9; clear hr9 hb9 hg9 hat9)
    go_ret
    exact ⟨_, rfl, HR9.out, HB9.out⟩
set_option maxHeartbeats 4000000 in
set_option maxRecDepth 100000 in
theorem copy_calls {W : World} {p M n kept : Nat} {v : Value} {h : Hist} (H : DkAt W p M v n h kept) (hl : h.length ≤ 1000000) :
    Calls Tryd.prog 17 #[.pointer (some ⟨p, 0, none⟩)] W fun e w' => ∃ pc Mc u, e = .returned (.pointer (some ⟨pc, 0, none⟩)) ∧ DkAt w' pc Mc u n h kept ∧ W.heap.size ≤ pc ∧ W.heap.size ≤ Mc ∧ (∀ k, u.ownBlock = some k → W.heap.size ≤ k) ∧ Below W.heap.size W w' := by
  have HD := Lib.hid H
  have HC := Lib.hid (check_calls H 0)
  rw [show chk n 0 = 0 from if_pos (by have := H.nn; omega)] at HC
  have Hl := Lib.hid hl
  clear H hl
  go_enter Tryd.func17, Tryd.ntmps17
  go_wp2_with fail
  refine HC.out.mono ?_; rintro e w1 ⟨rfl, hb1⟩
  have HD1 := Lib.hid (HD.out.below hb1 (Nat.le_refl _))
  have HB1 := Lib.hid hb1
  obtain ⟨D, ho, hmi⟩ := HD1.out.map
  have HCl := Lib.hid (mclone_calls (W := w1.drew) ho)
  have HMi := Lib.hid hmi
  clear hb1 ho hmi HC
  go_upto_region 3 with fail
  refine start_ (n := 17) (S := fun w' => w'.cell? ⟨p, 0, none⟩ = some (.int .i64 (n : Int)) ∧ w'.cell? ⟨p, 1, none⟩ = some (.map (some M)) ∧ w'.cell? ⟨p, 2, none⟩ = some (v)) (ds := []) #[false, false, false, false, false, false, false, false, false, false, false, false, false, false, false, false, false] (by kernel_rfl) rfl rfl ⟨HD1.out.drew.cells.1, HD1.out.drew.cells.2.1, HD1.out.drew.cells.2.2⟩ (fun hHeld => ?_)
  refine pure_ (i := 0) (N := some 6) (v := ?_) (a' := ?_) #[true, false, false, false, false, false, false, false, false, false, false, false, false, false, false, false, false] rfl rfl (by kernel_rfl) (fun _ _ _ h => h) (Or.inl ⟨by rfl, ?_⟩) ?_ ?_
  rotate_left
  · intro w'
    go_simp
    with_reducible rfl
  rotate_left
  · simp only [Act.put, List.setIfInBounds_toArray, List.set_cons_zero, List.set_cons_succ, i64_w, i32_w]
    rfl
  refine pure_ (i := 1) (N := some 7) (v := ?_) (a' := ?_) #[true, true, false, false, false, false, false, false, false, false, false, false, false, false, false, false, false] rfl rfl (by kernel_rfl) (fun _ _ _ h => h) (Or.inl ⟨by rfl, ?_⟩) ?_ ?_
  rotate_left
  · intro w'
    go_simp
    with_reducible rfl
  rotate_left
  · simp only [Act.put, List.setIfInBounds_toArray, List.set_cons_zero, List.set_cons_succ, i64_w, i32_w]
    rfl
  refine pure_ (i := 2) (N := some 8) (v := ?_) (a' := ?_) #[true, true, true, false, false, false, false, false, false, false, false, false, false, false, false, false, false] rfl rfl (by kernel_rfl) (fun _ _ _ h => h) (Or.inl ⟨by rfl, ?_⟩) ?_ ?_
  rotate_left
  · intro w'
    go_simp
    with_reducible rfl
  rotate_left
  · simp only [Act.put, List.setIfInBounds_toArray, List.set_cons_zero, List.set_cons_succ, i64_w, i32_w]
    rfl
  refine pure_ (i := 4) (N := some 10) (v := ?_) (a' := ?_) #[true, true, true, false, true, false, false, false, false, false, false, false, false, false, false, false, false] rfl rfl (by kernel_rfl) (fun _ _ _ h => h) (Or.inl ⟨by rfl, ?_⟩) ?_ ?_
  rotate_left
  · intro w'
    go_simp
    with_reducible rfl
  rotate_left
  · simp only [Act.put, List.setIfInBounds_toArray, List.set_cons_zero, List.set_cons_succ, i64_w, i32_w]
    rfl
  refine pure_ (i := 5) (N := some 11) (v := ?_) (a' := ?_) #[true, true, true, false, true, true, false, false, false, false, false, false, false, false, false, false, false] rfl rfl (by kernel_rfl) (fun _ _ _ h => h) (Or.inl ⟨by rfl, ?_⟩) ?_ ?_
  rotate_left
  · intro w'
    go_simp
    with_reducible rfl
  rotate_left
  · simp only [Act.put, List.setIfInBounds_toArray, List.set_cons_zero, List.set_cons_succ, i64_w, i32_w]
    rfl
  refine pure_ (i := 6) (N := some 12) (v := ?_) (a' := ?_) #[true, true, true, false, true, true, true, false, false, false, false, false, false, false, false, false, false] rfl rfl (by kernel_rfl) (fun _ _ _ h => h) (Or.inl ⟨by rfl, ?_⟩) ?_ ?_
  rotate_left
  · intro w'
    go_simp
    with_reducible rfl
  rotate_left
  · simp only [Act.put, List.setIfInBounds_toArray, List.set_cons_zero, List.set_cons_succ, i64_w, i32_w]
    rfl
  refine pure_ (i := 9) (N := some 15) (v := ?_) (a' := ?_) #[true, true, true, false, true, true, true, false, false, true, false, false, false, false, false, false, false] rfl rfl (by kernel_rfl) (fun _ _ _ h => h) (Or.inl ⟨by rfl, ?_⟩) ?_ ?_
  rotate_left
  · intro w'
    go_simp
    with_reducible rfl
  rotate_left
  · simp only [Act.put, List.setIfInBounds_toArray, List.set_cons_zero, List.set_cons_succ, i64_w, i32_w]
    rfl
  refine pure_ (i := 10) (N := some 16) (v := ?_) (a' := ?_) #[true, true, true, false, true, true, true, false, false, true, true, false, false, false, false, false, false] rfl rfl (by kernel_rfl) (fun _ _ _ h => h) (Or.inl ⟨by rfl, ?_⟩) ?_ ?_
  rotate_left
  · intro w'
    go_simp
    with_reducible rfl
  rotate_left
  · simp only [Act.put, List.setIfInBounds_toArray, List.set_cons_zero, List.set_cons_succ, i64_w, i32_w]
    rfl
  refine pure_ (i := 11) (N := some 17) (v := ?_) (a' := ?_) #[true, true, true, false, true, true, true, false, false, true, true, true, false, false, false, false, false] rfl rfl (by kernel_rfl) (fun _ _ _ h => h) (Or.inl ⟨by rfl, ?_⟩) ?_ ?_
  rotate_left
  · intro w'
    go_simp
    with_reducible rfl
  rotate_left
  · simp only [Act.put, List.setIfInBounds_toArray, List.set_cons_zero, List.set_cons_succ, i64_w, i32_w]
    rfl
  refine take_ (i := 3) (N := some 9) (v := ?_) (a' := ?_) #[true, true, true, true, true, true, true, false, false, true, true, true, false, false, false, false, false] rfl rfl (by kernel_rfl) (fun _ _ _ h => h) (Or.inl ⟨by rfl, ?_⟩) hHeld ?_ ?_
  rotate_left
  · rintro w' ⟨s0, s1, s2⟩
    go_simp
    with_reducible rfl
  rotate_left
  · simp only [Act.put, List.setIfInBounds_toArray, List.set_cons_zero, List.set_cons_succ, i64_w, i32_w]
    rfl
  refine take_ (i := 7) (N := some 13) (v := ?_) (a' := ?_) #[true, true, true, true, true, true, true, true, false, true, true, true, false, false, false, false, false] rfl rfl (by kernel_rfl) (fun _ _ _ h => h) (Or.inl ⟨by rfl, ?_⟩) hHeld ?_ ?_
  rotate_left
  · rintro w' ⟨s0, s1, s2⟩
    go_simp
    with_reducible rfl
  rotate_left
  · simp only [Act.put, List.setIfInBounds_toArray, List.set_cons_zero, List.set_cons_succ, i64_w, i32_w]
    rfl
  refine take_ (i := 12) (N := some 18) (v := ?_) (a' := ?_) #[true, true, true, true, true, true, true, true, false, true, true, true, true, false, false, false, false] rfl rfl (by kernel_rfl) (fun _ _ _ h => h) (Or.inl ⟨by rfl, ?_⟩) hHeld ?_ ?_
  rotate_left
  · rintro w' ⟨s0, s1, s2⟩
    go_simp
    with_reducible rfl
  rotate_left
  · simp only [Act.put, List.setIfInBounds_toArray, List.set_cons_zero, List.set_cons_succ, i64_w, i32_w]
    rfl
  refine one_ (i := 8) (N := some 14) #[true, true, true, true, true, true, true, true, true, true, true, true, true, false, false, false, false] rfl rfl (by kernel_rfl) (by decide) (fun K hK => ?_)
  refine goes_ Tryd.func33 (by kernel_rfl) rfl #[.map (some M)] (by rfl) rfl rfl (by simp only [List.map_toArray, List.map_cons, List.map_nil]; rfl) ?_
  with_reducible refine (HCl.out).mono ?_
  rintro e w3 ⟨rfl, ho3, hb3⟩
  refine ⟨_, rfl, ?_⟩
  have HD3 := Lib.hid (HD1.out.drew.below hb3 (Nat.le_refl _))
  have HB3 := Lib.hid (below_step (below_drew HB1.out) hb3)
  have HS3 : Hid (W.heap.size ≤ w3.heap.size) := Lib.hid HB3.out.size
  have HO3 := Lib.hid ho3
  clear ho3 hb3
  refine hK.out _ _ ⟨HD3.out.cells.1, HD3.out.cells.2.1, HD3.out.cells.2.2⟩ (fun hHeld => ?_)
  clear hK K
  refine norm_ (a' := ?_) ?_ ?_
  rotate_left
  · show Act.put _ (some 14) _ = _
    simp only [Act.put, List.setIfInBounds_toArray, List.set_cons_zero, List.set_cons_succ, i64_w, i32_w]
    rfl
  refine one_ (i := 13) (N := some 19) #[true, true, true, true, true, true, true, true, true, true, true, true, true, true, false, false, false] rfl rfl (by kernel_rfl) (by decide) (fun K hK => ?_)
  refine goes_ Tryd.func34 (by kernel_rfl) rfl #[v] (by rfl) rfl rfl (by simp only [List.map_toArray, List.map_cons, List.map_nil]; rfl) ?_
  with_reducible refine (sclone_calls HD3.out.row (by rw [logOf_length]; have := Hl.out; omega)).mono ?_
  rintro e w4 ⟨u4, rfl, hr4, hb4⟩
  refine ⟨_, rfl, ?_⟩
  have HD4 := Lib.hid (HD3.out.below hb4 (Nat.le_refl _))
  have HB4 := Lib.hid (below_step HB3.out hb4)
  have HO4 := Lib.hid (ownsMap_move HO3.out (hb4.block _ HO3.out.lt))
  obtain ⟨Au, cu, rfl⟩ := Kd.R_slice hr4
  have HR4 := Lib.hid hr4
  clear hr4 hb4
  refine hK.out _ _ ⟨HD4.out.cells.1, HD4.out.cells.2.1, HD4.out.cells.2.2⟩ (fun hHeld => ?_)
  clear hK K
  refine norm_ (a' := ?_) ?_ ?_
  rotate_left
  · show Act.put _ (some 19) _ = _
    simp only [Act.put, List.setIfInBounds_toArray, List.set_cons_zero, List.set_cons_succ, i64_w, i32_w]
    rfl
  refine pure_ (i := 14) (N := some 20) (v := ?_) (a' := ?_) #[true, true, true, true, true, true, true, true, true, true, true, true, true, true, true, false, false] rfl rfl (by kernel_rfl) (fun _ _ _ h => h) (Or.inl ⟨by rfl, ?_⟩) ?_ ?_
  rotate_left
  · intro w'
    go_simp
    with_reducible rfl
  rotate_left
  · simp only [Act.put, List.setIfInBounds_toArray, List.set_cons_zero, List.set_cons_succ, i64_w, i32_w]
    rfl
  refine one_ (i := 15) (N := some 21) #[true, true, true, true, true, true, true, true, true, true, true, true, true, true, true, true, false] rfl rfl (by kernel_rfl) (by decide) (fun K hK => ?_)
  refine value_ (w1 := ?_) (v := ?_) (by rfl) rfl ?_ ?_
  rotate_left 2
  · go_simp
    constructor
    · rfl
    · rfl
  refine hK.out _ _ ⟨(HD4.out.alloc _).cells.1, (HD4.out.alloc _).cells.2.1, (HD4.out.alloc _).cells.2.2⟩ (fun hHeld => ?_)
  clear hK K
  refine norm_ (a' := ?_) ?_ ?_
  rotate_left
  · show Act.put _ (some 21) _ = _
    simp only [Act.put, List.setIfInBounds_toArray, List.set_cons_zero, List.set_cons_succ, i64_w, i32_w]
    rfl
  refine pure_ (i := 16) (N := some 2) (v := ?_) (a' := ?_) #[true, true, true, true, true, true, true, true, true, true, true, true, true, true, true, true, true] rfl rfl (by kernel_rfl) (fun _ _ _ h => h) (Or.inl ⟨by rfl, ?_⟩) ?_ ?_
  rotate_left
  · intro w'
    go_simp
    with_reducible rfl
  rotate_left
  · simp only [Act.put, List.setIfInBounds_toArray, List.set_cons_zero, List.set_cons_succ, i64_w, i32_w]
    rfl
  refine done_ (by kernel_rfl) ?_
  clear hHeld
  obtain ⟨u4, hu4⟩ : ∃ x, Value.slice Au (logOf h kept).length cu = x := ⟨_, rfl⟩
  rw [hu4] at HR4
  rw [hu4]
  clear hu4
  go_wp2
  go_ret
  have hcs : (w4.alloc (.cells #[.int .i64 (n : Int), .map (some w1.heap.size), u4] 58)).heap[w4.heap.size]? = some (.cells #[.int .i64 (n : Int), .map (some w1.heap.size), u4] 58 (0, 0)) := blk_new w4 _
  refine ⟨w4.heap.size, w1.heap.size, u4, rfl, ⟨hcs, ⟨D, (HO4.out.alloc _), HMi.out⟩, kW_move (Kd.R_lower HR4.out (Nat.zero_le _)) (fun k hk => (below_alloc (Below.refl w4.heap.size w4) _).block k (Kd.R_lt HR4.out k hk)), HD.out.le, HD.out.good, HD.out.nn⟩, HB4.out.size, HB1.out.size, fun k hk => Nat.le_trans HS3.out (Kd.R_base HR4.out k hk), below_alloc HB4.out _⟩
theorem keys_calls (mb : Option Nat) (W : World) : Calls Tryd.prog 42 #[.map mb] W fun e w' => e = .returned (.func (.func 52) #[] #[.pointer (some ⟨W.heap.size, 0, none⟩)]) ∧ w' = W.alloc (.cells #[.map mb] 55) := (callsIn_wide (n := 5)).1 (Tryd.maps_Keys_in mb W)
def usedI (n : Nat) (f : Nat → ByteArray) : List Int := (used n f).map fun (i : Nat) => (i : Int)
theorem sorted_calls {W : World} {M n : Nat} {D : DataW Unit} {f : Nat → ByteArray} (ho : W.ownsMap Tryd.prog 3 heldE M n D) (hm : MapIs D n f) (hn : n ≤ 131072) :
    Calls Tryd.prog 41 #[.func (.func 52) #[] #[.pointer (some ⟨W.heap.size, 0, none⟩)]] (W.alloc (.cells #[.map (some M)] 55)) fun e w' => ∃ u, e = .returned u ∧ w'.ownsRow W.heap.size 3 1 u (usedI n f).length (nums .i64 (usedI n f)) ∧ Below W.heap.size W w' := by
  have hs := size_used Tryd.underlying3 ho hm
  have hle := used_le n f
  refine ((callsIn_wide (n := 5)).1 (Tryd.slices_Sorted_in M n D heldE W ho (by unfold maxLen; omega) (by omega))).mono fun e w' ⟨u, ss, he, hp, hrow, _, hb⟩ => ⟨u, he, ?_, ?_⟩
  · rw [sorted_used Tryd.underlying3 ho hm hp] at hrow
    have hl : ss.length = (usedI n f).length := by
      have h1 := hp.length_eq
      have h2 := (keys_used Tryd.underlying3 ho hm).length_eq
      rw [h1, ← h2]
      rfl
    rw [hl] at hrow
    refine own_weaken hrow ?_
    simp
  · exact (below_alloc (Below.refl _ _) _).trans (hb.mono (by simp))
set_option maxHeartbeats 1000000 in
set_option maxRecDepth 100000 in
theorem used_calls {W : World} {p M n kept : Nat} {v : Value} {h : Hist} (H : DkAt W p M v n h kept) :
    Calls Tryd.prog 26 #[.pointer (some ⟨p, 0, none⟩)] W fun e w' => ∃ u, e = .returned u ∧ w'.ownsRow W.heap.size 3 1 u (usedI n (cont h)).length (nums .i64 (usedI n (cont h))) ∧ Below W.heap.size W w' := by
  have HD := Lib.hid H
  have HC := Lib.hid (check_calls H 0)
  rw [show chk n 0 = 0 from if_pos (by have := H.nn; omega)] at HC
  clear H
  go_enter Tryd.func26, Tryd.ntmps26
  go_wp2_with fail
  refine HC.out.mono ?_; rintro e w1 ⟨rfl, hb1⟩
  have HD1 := Lib.hid (HD.out.below hb1 (Nat.le_refl _))
  have HB1 := Lib.hid hb1
  obtain ⟨c0, c1, c2⟩ := HD1.out.cells
  obtain ⟨D, ho, hmi⟩ := HD1.out.map
  have HK := Lib.hid (keys_calls (some M) w1)
  have HS := Lib.hid (sorted_calls ho hmi HD.out.nn.2)
  clear hb1 ho hmi HC
  go_wp2_with fail
  refine HK.out.mono ?_; rintro e w2 ⟨rfl, rfl⟩
  go_wp2_with fail
  refine HS.out.mono ?_; rintro e w3 ⟨u, rfl, hu, hb3⟩
  have HU := Lib.hid hu
  have HB3 := Lib.hid (below_step HB1.out hb3)
  clear hu hb3 c0 c1 c2
  go_wp2
  go_ret
  exact ⟨_, rfl, own_weaken HU.out HB1.out.size, HB3.out⟩
end Go.Proofs.YteooldbdilkmeaaDoor.SC

namespace Go.Proofs.YteooldbdilkmeaaDoor.SC
open Go.RowKit Go.Maps Go.Proofs.YteooldbdilkmeaaDoorW.PrintWords Go.Proofs.YteooldbdilkmeaaDoorW.PrintLast Go.Proofs.YteooldbdilkmeaaDoorW.PrintMore
set_option linter.unusedVariables false
set_option linter.unusedSimpArgs false
def byteAt (s : ByteArray) (j : Nat) : Nat := (s.data.toList.getD j 0).toNat
theorem byteAt_get (s : ByteArray) (j : Nat) (h : j < s.size) : byteAt s j = (s[j]'h).toNat := by
  unfold byteAt
  rw [List.getD_eq_getElem?_getD, List.getElem?_eq_getElem (by rw [← size_toL]; exact h)]
  simp
  rfl
theorem full_at (s : ByteArray) (hs : s.size ≤ 512) (j : Nat) (h : s.size ≤ j) : byteAt (full s) j = 0 := by
  unfold byteAt
  rw [full_toL, List.getD_eq_getElem?_getD, List.getElem?_append_right (by rw [← size_toL]; exact h), List.getElem?_replicate]
  split <;> rfl
theorem full_in (s : ByteArray) (j : Nat) (h : j < s.size) : byteAt (full s) j = byteAt s j := by
  unfold byteAt
  rw [full_toL, List.getD_eq_getElem?_getD, List.getElem?_append_left (by rw [← size_toL]; exact h), List.getD_eq_getElem?_getD]
theorem one_a : cont ([] ++ [(3, trim ⟨#[97]⟩)]) 3 = ⟨#[97]⟩ := by decide +kernel
set_option maxHeartbeats 2000000 in
set_option maxRecDepth 100000 in
theorem works20 (W : World) : Calls Tryd.prog 11 #[] W fun e w' => e = .returned (.bool true) ∧ Below W.heap.size W w' := by
  have HNw := Lib.hid (new_calls 256 (by decide) W)
  obtain ⟨Sa, hSa⟩ : ∃ x, full (⟨#[97]⟩ : ByteArray) = x := ⟨_, rfl⟩
  have hsz : Sa.size = 512 := by rw [← hSa]; exact full_size _ (by decide)
  have hix : ∀ h : 0 < Sa.size, (Sa[0]'h).toNat = 97 := fun h => by rw [← byteAt_get, ← hSa, full_in _ 0 (by decide)]; rfl
  obtain ⟨Sz, hSz⟩ : ∃ x, full E0 = x := ⟨_, rfl⟩
  have hsz2 : Sz.size = 512 := by rw [← hSz]; exact full_size _ (by decide)
  have hix2 : ∀ h : 0 < Sz.size, (Sz[0]'h).toNat = 0 := fun h => by rw [← byteAt_get, ← hSz, full_at _ (by decide) 0 (by decide)]
  have hp2 : 0 < Sz.size := by rw [hsz2]; decide
  have hp1 : 0 < Sa.size := by rw [hsz]; decide
  have hne : ((Sa.size : Int) != 512) = false := by rw [hsz]; rfl
  have Hix := Lib.hid hix
  have Hix2 := Lib.hid hix2
  have HSa := Lib.hid hSa
  have HSz := Lib.hid hSz
  have Hne := Lib.hid hne
  clear hix hix2 hsz hsz2 hSa hSz hne
  go_enter Tryd.func11, Tryd.ntmps11
  go_wp2_with fail
  refine HNw.out.mono ?_; rintro e w1 ⟨rfl, hd1, hb1⟩
  obtain ⟨M, hM⟩ : ∃ x, W.heap.size = x := ⟨_, rfl⟩
  obtain ⟨p, hp⟩ : ∃ x, M + 1 = x := ⟨_, rfl⟩
  have HM := Lib.hid hM
  have Hp := Lib.hid hp
  rw [hM, hp] at hd1
  rw [hM, hp]
  have HD1 := Lib.hid hd1
  have HB1 := Lib.hid hb1
  have HWr := Lib.hid (write_calls HD1.out 3 (by decide) ⟨#[97]⟩ (by decide) (by decide))
  clear hd1 hb1 hM hp
  go_wp2_with fail
  refine HWr.out.mono ?_; rintro e w2 ⟨rfl, ⟨v2, hd2, hmv2⟩, ho2⟩
  have HC2 := Lib.hid one_a
  obtain ⟨h1, hh1⟩ : ∃ x, (([] : Hist) ++ [(3, trim ⟨#[97]⟩)]) = x := ⟨_, rfl⟩
  have hl1 : h1.length = 1 := by rw [← hh1]; rfl
  rw [hh1] at hd2 HC2
  have HD2 := Lib.hid hd2
  have HB2 : Hid (Below W.heap.size W w2) := Lib.hid (OnlyD.below HB1.out ho2 HB1.out.size (by have := HM.out; have := Hp.out; omega) (by have := HM.out; omega) (fun k hk => by cases hk))
  have HCt := Lib.hid (cut_calls HD2.out (by omega) 0 (by omega))
  clear hd2 hmv2 ho2 hh1 hl1
  go_wp2_with fail
  refine HCt.out.mono ?_; rintro e w3 ⟨pc, Mc, rfl, hd3, hpc, hMc, hb3⟩
  have HD3 := Lib.hid (HD2.out.below hb3 (Nat.le_refl _))
  have HE3 := Lib.hid hd3
  have HB3 := Lib.hid (below_step HB2.out hb3)
  have HR3 := Lib.hid (read_calls HD3.out 3 (by decide))
  rw [HC2.out, HSa.out] at HR3
  clear hd3 hpc hMc hb3
  go_wp2_with fail
  refine HR3.out.mono ?_; rintro e w4 ⟨rfl, hb4⟩
  have HE4 := Lib.hid (HE3.out.below hb4 (Nat.le_refl _))
  have HB4 := Lib.hid (below_step HB3.out hb4)
  have HR4 := Lib.hid (read_calls HE4.out 3 (by decide))
  rw [show cont (h1.take (0 + 0)) 3 = E0 from rfl, HSz.out] at HR4
  have hix := Hix.out
  have hne := Hne.out
  clear hb4
  go_wp2_with fail
  refine HR4.out.mono ?_; rintro e w5 ⟨rfl, hb5⟩
  have HB5 := Lib.hid (below_step HB4.out hb5)
  have hix2 := Hix2.out
  clear hb5
  go_wp2
  go_ret
  exact ⟨rfl, HB5.out⟩
end Go.Proofs.YteooldbdilkmeaaDoor.SC

namespace Go.Proofs.YteooldbdilkmeaaDoor.SC
open Go.RowKit Go.Maps Go.Proofs.YteooldbdilkmeaaDoorW.PrintWords Go.Proofs.YteooldbdilkmeaaDoorW.PrintLast Go.Proofs.YteooldbdilkmeaaDoorW.PrintMore
set_option linter.unusedVariables false
set_option linter.unusedSimpArgs false
def okw (n : Nat) (x : Wa) : Prop := 0 ≤ x.1 ∧ x.1 < n ∧ x.2.size ≤ 512
instance (n : Nat) (x : Wa) : Decidable (okw n x) := by unfold okw; infer_instance
def wcode (n : Nat) (x : Wa) : Int := if 0 ≤ x.1 ∧ x.1 < n then (if x.2.size ≤ 512 then 0 else 3) else 2
def stepH (n : Nat) (h : Hist) (x : Wa) : Hist := if okw n x then h ++ [(x.1.toNat, trim x.2)] else h
theorem wcode_ok {n : Nat} {x : Wa} (h : okw n x) : wcode n x = 0 := by unfold wcode; rw [if_pos ⟨h.1, h.2.1⟩, if_pos h.2.2]
theorem wcode_no {n : Nat} {x : Wa} (h : ¬ okw n x) : wcode n x ≠ 0 := by
  unfold wcode
  by_cases h1 : 0 ≤ x.1 ∧ x.1 < n
  · rw [if_pos h1, if_neg (fun h2 => h ⟨h1.1, h1.2, h2⟩)]; decide
  · rw [if_neg h1]; decide
theorem stepH_ok {n : Nat} {h : Hist} {x : Wa} (hk : okw n x) : stepH n h x = h ++ [(x.1.toNat, trim x.2)] := if_pos hk
theorem stepH_no {n : Nat} {h : Hist} {x : Wa} (hk : ¬ okw n x) : stepH n h x = h := if_neg hk
theorem stepH_len (n : Nat) (h : Hist) (x : Wa) : h.length ≤ (stepH n h x).length ∧ (stepH n h x).length ≤ h.length + 1 := by
  unfold stepH
  split
  · rw [List.length_append, List.length_singleton]; omega
  · omega
theorem write_any {W : World} {p M n kept : Nat} {v : Value} {h : Hist} (H : DkAt W p M v n h kept) (x : Wa) (hl : h.length ≤ 1000000) :
    Calls Tryd.prog 12 #[.pointer (some ⟨p, 0, none⟩), .int .i64 x.1, .string x.2] W fun e w' => e = .returned (.int .i64 (wcode n x)) ∧ (∃ v', DkAt w' p M v' n (stepH n h x) kept ∧ Moved W v v') ∧ OnlyD p M v W w' := by
  obtain ⟨a, s⟩ := x
  by_cases h1 : 0 ≤ a ∧ a < n
  · by_cases h2 : s.size ≤ 512
    · obtain ⟨i, rfl⟩ : ∃ i : Nat, a = (i : Int) := ⟨a.toNat, by omega⟩
      have hk : okw n ((i : Int), s) := ⟨h1.1, h1.2, h2⟩
      rw [wcode_ok hk, stepH_ok hk]
      exact write_calls H i (by omega) s h2 hl
    · have hk : ¬ okw n (a, s) := fun h => h2 h.2.2
      rw [stepH_no hk, show wcode n (a, s) = 3 by unfold wcode; rw [if_pos h1, if_neg h2]]
      exact (write_long H a h1 s (by omega)).mono fun e w' ⟨he, hb⟩ => ⟨he, ⟨v, H.below hb (Nat.le_refl _), Moved.refl _ _⟩, OnlyD.of hb (Nat.le_refl _)⟩
  · have hk : ¬ okw n (a, s) := fun h => h1 ⟨h.1, h.2.1⟩
    rw [stepH_no hk, show wcode n (a, s) = 2 by unfold wcode; rw [if_neg h1]]
    exact (write_no H a h1 s).mono fun e w' ⟨he, hb⟩ => ⟨he, ⟨v, H.below hb (Nat.le_refl _), Moved.refl _ _⟩, OnlyD.of hb (Nat.le_refl _)⟩
def wrt (n : Nat) (mark : Int) (l : List Wa) : Nat → Hist × Nat
  | 0 => ([], 0)
  | i + 1 => (stepH n (wrt n mark l i).1 (l.getD i (0, E0)), if (i : Int) = mark then (wrt n mark l i).1.length else (wrt n mark l i).2)
theorem wrt_len (n : Nat) (mark : Int) (l : List Wa) : ∀ i, (wrt n mark l i).1.length ≤ i ∧ (wrt n mark l i).2 ≤ (wrt n mark l i).1.length
  | 0 => ⟨Nat.le_refl _, Nat.le_refl _⟩
  | i + 1 => by
    have ih := wrt_len n mark l i
    have h := stepH_len n (wrt n mark l i).1 (l.getD i (0, E0))
    show (stepH n (wrt n mark l i).1 (l.getD i (0, E0))).length ≤ i + 1 ∧ (if (i : Int) = mark then (wrt n mark l i).1.length else (wrt n mark l i).2) ≤ (stepH n (wrt n mark l i).1 (l.getD i (0, E0))).length
    split <;> omega
theorem la_at {W : World} {A : Option Addr} {N : Nat} {l : List Wa} (h : kA.C W A N l) (i : Nat) (hi : i < N) : ∃ b o, A = some ⟨b, o, none⟩ ∧ W.cell? ⟨b, o + i * 2, none⟩ = some (.int .i64 (l.getD i (0, E0)).1) ∧ W.cell? ⟨b, o + i * 2 + 1, none⟩ = some (.string (l.getD i (0, E0)).2) := by
  obtain ⟨⟨b, o, sp⟩, cs, rfl, hcl, hK, hcell⟩ := Kd.C_get h (0, E0) (i : Int) (by omega) (by omega)
  obtain rfl := kA_open hK
  obtain ⟨ad0, cs0, had, _, hK0, hcell0⟩ := Kd.C_get h (0, E0) ((0 : Nat) : Int) (by omega) (by omega)
  obtain rfl := kA_open hK0
  injection had with had
  subst had
  obtain rfl : sp = none := by
    have := World.cell?_spot (hcell0 0 _ rfl)
    simpa [Addr.add] using this
  have h0 := hcell 0 _ rfl
  have h1 := hcell 1 _ rfl
  rw [Int.toNat_natCast] at h0 h1
  rw [Addr.add_mid] at h0 h1
  exact ⟨b, o, rfl, h0, h1⟩
theorem new300 (W : World) : Calls Tryd.prog 18 #[.int .i64 300] W fun e w' => e = .returned (.tuple #[.pointer (some ⟨W.heap.size + 1, 0, none⟩), .int .i64 0]) ∧ DkAt w' (W.heap.size + 1) W.heap.size (.slice none 0 0) 300 [] 0 ∧ Below W.heap.size W w' := new_calls 300 (by decide) W
theorem int_beq_no {a b : Int} (h : a ≠ b) : (a == b) = false := beq_false_of_ne h
set_option maxHeartbeats 4000000 in
set_option maxRecDepth 100000 in
theorem written_calls (A : Option Addr) (N cap : Nat) (l : List Wa) (mark : Int) (W : World) (hr : kA.C W A N l) :
    Calls Tryd.prog 9 #[.slice A N cap, .int .i64 mark] W fun e w' => ∃ p M v, e = .returned (.tuple #[.pointer (some ⟨p, 0, none⟩), .int .i64 (((wrt 300 mark l (min N 40)).1.length - (wrt 300 mark l (min N 40)).2 : Nat) : Int)]) ∧ DkAt w' p M v 300 (wrt 300 mark l (min N 40)).1 (wrt 300 mark l (min N 40)).2 ∧ W.heap.size ≤ p ∧ W.heap.size ≤ M ∧ (∀ k, v.ownBlock = some k → W.heap.size ≤ k) ∧ Below W.heap.size W w' := by
  have HR := Lib.hid hr
  have HNw := Lib.hid (new300 W)
  obtain ⟨m, hm⟩ : ∃ m, min N 40 = m := ⟨_, rfl⟩
  have Hm := Lib.hid hm
  rw [hm]
  clear hr hm
  go_enter Tryd.func9, Tryd.ntmps9
  go_wp2_with fail
  refine HNw.out.mono ?_; rintro e w1 ⟨rfl, hd1, hb1⟩
  obtain ⟨M, hM⟩ : ∃ x, W.heap.size = x := ⟨_, rfl⟩
  obtain ⟨p, hp⟩ : ∃ x, M + 1 = x := ⟨_, rfl⟩
  have HPM : Hid (W.heap.size ≤ p ∧ W.heap.size ≤ M) := Lib.hid (by omega)
  rw [hM, hp] at hd1
  rw [hM, hp]
  have HD1 := Lib.hid hd1
  have HB1 := Lib.hid hb1
  clear hd1 hb1 hM hp HNw
  go_wp2_with fail
  go_loopw [9, 8] (fun iv nv V => ∃ (i : Nat) (h : Hist) (kept : Nat) (v : Value), i ≤ m ∧ iv = .int .i64 (i : Int) ∧ nv = .int .i64 ((h.length - kept : Nat) : Int) ∧ Aside0 (wrt 300 mark l i = (h, kept)) ∧ Aside0 (DkAt V p M v 300 h kept) ∧ Aside0 (∀ k, v.ownBlock = some k → W.heap.size ≤ k) ∧ Aside0 (Below W.heap.size W V)) (fun iv _ _ => m - (ixOf iv).toNat)
  case atStart => exact ⟨0, [], 0, .slice none 0 0, Nat.zero_le _, rfl, rfl, ⟨rfl⟩, ⟨HD1.out⟩, ⟨fun k hk => by cases hk⟩, ⟨HB1.out⟩⟩
  case round =>
    obtain ⟨i, h, kept, v, hi, rfl, rfl, ⟨hw⟩, ⟨hdk⟩, ⟨hvb⟩, ⟨hb⟩⟩ := hrel
    have HW := Lib.hid hw
    have HDi := Lib.hid hdk
    have HVi := Lib.hid hvb
    have HBi := Lib.hid hb
    have HLn : Hid (h.length ≤ i ∧ kept ≤ h.length) := Lib.hid (by have := wrt_len 300 mark l i; rw [hw] at this; exact this)
    obtain ⟨cnt, hcnt⟩ : ∃ c, h.length - kept = c := ⟨_, rfl⟩
    have HCn := Lib.hid hcnt
    rw [hcnt]
    clear hw hdk hvb hb HD1 HB1 hcnt
    by_cases hlt : i < m
    · have hiN : i < N ∧ i < 40 := by have := Hm.out; omega
      have hd := decide_eq_true (show (i : Int) < (N : Int) by omega)
      have hdn := decide_eq_true hiN.1
      have hd4 := decide_eq_true (show (i : Int) < 40 by omega)
      have hd4n := decide_eq_true hiN.2
      obtain ⟨ab, ao, rfl, q0, q1⟩ := la_at (Kd.C_below HR.out HBi.out) i hiN.1
      obtain ⟨x, hx⟩ : ∃ x, l.getD i (0, E0) = x := ⟨_, rfl⟩
      rw [hx] at q0 q1
      have Hx := Lib.hid hx
      have p1 : (0 ≤ (i : Int)) = True := eq_true (by omega)
      have p2 : ((i : Int) < (N : Int)) = True := eq_true (by omega)
      have hnx : wrap64 ((i : Int) + 1) = (i : Int) + 1 := by clear hd hd4 p1 p2; unfold wrap64; omega
      have hnc : wrap64 ((cnt : Int) + 1) = (cnt : Int) + 1 := by have := HLn.out; have := HCn.out; clear hd hd4 p1 p2 hnx; unfold wrap64; omega
      have Hlt := Lib.hid hlt
      have HI40 := Lib.hid hiN.2
      have Hnx := Lib.hid hnx
      have Hnc := Lib.hid hnc
      clear hx hlt hi hiN hnx hnc
      by_cases hmk : (i : Int) = mark
      · have hmb : ((i : Int) == mark) = true := by rw [hmk]; exact beq_self_eq_true _
        have HS : Hid (wrt 300 mark l (i + 1) = (stepH 300 h x, h.length)) := Lib.hid (by rw [wrt, HW.out, Hx.out, if_pos hmk])
        have HMk := Lib.hid (mark_calls HDi.out)
        clear hmk
        go_wp2_with fail
        refine HMk.out.mono ?_; rintro e w2 ⟨rfl, hd2, ho2⟩
        have HD2 := Lib.hid hd2
        have HV2 : Hid (∀ k, (Value.slice none 0 0).ownBlock = some k → W.heap.size ≤ k) := Lib.hid (fun k hk => by cases hk)
        have HB2 := Lib.hid (OnlyD.below HBi.out ho2 HBi.out.size HPM.out.1 HPM.out.2 HVi.out)
        obtain ⟨_, _, hrr, r0, r1⟩ := la_at (Kd.C_below HR.out HB2.out) i (of_decide_eq_true hdn)
        injection hrr with hrr
        injection hrr with hb' ho'
        subst hb'; subst ho'
        rw [Hx.out] at r0 r1
        have HC2 : Hid ((0 : Nat) = h.length - h.length) := Lib.hid (by omega)
        have hnc0 : wrap64 (((0 : Nat) : Int) + 1) = ((0 : Nat) : Int) + 1 := by unfold wrap64; omega
        have HWr := Lib.hid (fun V (hb : Below w2.heap.size w2 V) => write_any (HD2.out.below hb (Nat.le_refl _)) x (by have := HLn.out; have := HI40.out; omega))
        clear hd2 ho2 q0 q1 hmb
        go_upto_region 11 with fail
        refine start_ (n := 13) (S := fun w' => w'.cell? ⟨ab, ao + i * 2, none⟩ = some (.int .i64 x.1) ∧ w'.cell? ⟨ab, ao + i * 2 + 1, none⟩ = some (.string x.2)) (ds := [11]) #[false, false, false, false, false, false, false, false, false, false, false, false, false] (by kernel_rfl) rfl rfl ⟨r0, r1⟩ (fun hHeld => ?_)
        refine pure_ (i := 0) (N := some 32) (v := ?_) (a' := ?_) #[true, false, false, false, false, false, false, false, false, false, false, false, false] rfl rfl (by kernel_rfl) (fun _ _ _ h => h) (Or.inl ⟨by rfl, ?_⟩) ?_ ?_
        rotate_left
        · intro w'
          go_simp
          with_reducible rfl
        rotate_left
        · simp only [Act.put, List.setIfInBounds_toArray, List.set_cons_zero, List.set_cons_succ, i64_w, i32_w]
          rfl
        refine pure_ (i := 1) (N := some 33) (v := ?_) (a' := ?_) #[true, true, false, false, false, false, false, false, false, false, false, false, false] rfl rfl (by kernel_rfl) (fun _ _ _ h => h) (Or.inl ⟨by rfl, ?_⟩) ?_ ?_
        rotate_left
        · intro w'
          go_simp
          with_reducible rfl
        rotate_left
        · simp only [Act.put, List.setIfInBounds_toArray, List.set_cons_zero, List.set_cons_succ, i64_w, i32_w]
          rfl
        refine pure_ (i := 2) (N := some 34) (v := ?_) (a' := ?_) #[true, true, true, false, false, false, false, false, false, false, false, false, false] rfl rfl (by kernel_rfl) (fun _ _ _ h => h) (Or.inl ⟨by rfl, ?_⟩) ?_ ?_
        rotate_left
        · intro w'
          go_simp
          with_reducible rfl
        rotate_left
        · simp only [Act.put, List.setIfInBounds_toArray, List.set_cons_zero, List.set_cons_succ, i64_w, i32_w]
          rfl
        refine pure_ (i := 3) (N := some 35) (v := ?_) (a' := ?_) #[true, true, true, true, false, false, false, false, false, false, false, false, false] rfl rfl (by kernel_rfl) (fun _ _ _ h => h) (Or.inl ⟨by rfl, ?_⟩) ?_ ?_
        rotate_left
        · intro w'
          go_simp
          with_reducible rfl
        rotate_left
        · simp only [Act.put, List.setIfInBounds_toArray, List.set_cons_zero, List.set_cons_succ, i64_w, i32_w]
          rfl
        refine pure_ (i := 4) (N := some 36) (v := ?_) (a' := ?_) #[true, true, true, true, true, false, false, false, false, false, false, false, false] rfl rfl (by kernel_rfl) (fun _ _ _ h => h) (Or.inl ⟨by rfl, ?_⟩) ?_ ?_
        rotate_left
        · intro w'
          go_simp
          with_reducible rfl
        rotate_left
        · simp only [Act.put, List.setIfInBounds_toArray, List.set_cons_zero, List.set_cons_succ, i64_w, i32_w]
          rfl
        refine pure_ (i := 6) (N := some 38) (v := ?_) (a' := ?_) #[true, true, true, true, true, false, true, false, false, false, false, false, false] rfl rfl (by kernel_rfl) (fun _ _ _ h => h) (Or.inl ⟨by rfl, ?_⟩) ?_ ?_
        rotate_left
        · intro w'
          go_simp
          with_reducible rfl
        rotate_left
        · simp only [Act.put, List.setIfInBounds_toArray, List.set_cons_zero, List.set_cons_succ, i64_w, i32_w]
          rfl
        refine pure_ (i := 7) (N := some 39) (v := ?_) (a' := ?_) #[true, true, true, true, true, false, true, true, false, false, false, false, false] rfl rfl (by kernel_rfl) (fun _ _ _ h => h) (Or.inl ⟨by rfl, ?_⟩) ?_ ?_
        rotate_left
        · intro w'
          go_simp
          with_reducible rfl
        rotate_left
        · simp only [Act.put, List.setIfInBounds_toArray, List.set_cons_zero, List.set_cons_succ, i64_w, i32_w]
          rfl
        refine pure_ (i := 8) (N := some 40) (v := ?_) (a' := ?_) #[true, true, true, true, true, false, true, true, true, false, false, false, false] rfl rfl (by kernel_rfl) (fun _ _ _ h => h) (Or.inl ⟨by rfl, ?_⟩) ?_ ?_
        rotate_left
        · intro w'
          go_simp
          with_reducible rfl
        rotate_left
        · simp only [Act.put, List.setIfInBounds_toArray, List.set_cons_zero, List.set_cons_succ, i64_w, i32_w]
          rfl
        refine pure_ (i := 9) (N := some 41) (v := ?_) (a' := ?_) #[true, true, true, true, true, false, true, true, true, true, false, false, false] rfl rfl (by kernel_rfl) (fun _ _ _ h => h) (Or.inl ⟨by rfl, ?_⟩) ?_ ?_
        rotate_left
        · intro w'
          go_simp
          with_reducible rfl
        rotate_left
        · simp only [Act.put, List.setIfInBounds_toArray, List.set_cons_zero, List.set_cons_succ, i64_w, i32_w]
          rfl
        refine take_ (i := 5) (N := some 37) (v := ?_) (a' := ?_) #[true, true, true, true, true, true, true, true, true, true, false, false, false] rfl rfl (by kernel_rfl) (fun _ _ _ h => h) (Or.inl ⟨by rfl, ?_⟩) hHeld ?_ ?_
        rotate_left
        · rintro w' ⟨s0, s1⟩
          go_simp
          with_reducible rfl
        rotate_left
        · simp only [Act.put, List.setIfInBounds_toArray, List.set_cons_zero, List.set_cons_succ, i64_w, i32_w]
          rfl
        refine take_ (i := 10) (N := some 42) (v := ?_) (a' := ?_) #[true, true, true, true, true, true, true, true, true, true, true, false, false] rfl rfl (by kernel_rfl) (fun _ _ _ h => h) (Or.inl ⟨by rfl, ?_⟩) hHeld ?_ ?_
        rotate_left
        · rintro w' ⟨s0, s1⟩
          go_simp
          with_reducible rfl
        rotate_left
        · simp only [Act.put, List.setIfInBounds_toArray, List.set_cons_zero, List.set_cons_succ, i64_w, i32_w]
          rfl
        refine last_ (i := 11) (N := some 43) #[true, true, true, true, true, true, true, true, true, true, true, true, false] rfl rfl (by kernel_rfl) (by decide) (fun K hK => ?_)
        refine goes_ Tryd.func12 (by kernel_rfl) rfl #[.pointer (some ⟨p, 0, none⟩), .int .i64 x.1, .string x.2] (by rfl) rfl rfl (by simp only [List.map_toArray, List.map_cons, List.map_nil]; rfl) ?_
        with_reducible refine (HWr.out _ (below_drew (Below.refl _ _))).mono ?_
        rintro e w5 ⟨rfl, ⟨v5, hd5, hm5⟩, ho5⟩
        refine ⟨_, rfl, ?_⟩
        refine hK.out _ _ ?_
        clear hK K
        refine norm_ (a' := ?_) ?_ ?_
        rotate_left
        · show Act.put _ (some 43) _ = _
          simp only [Act.put, List.setIfInBounds_toArray, List.set_cons_zero, List.set_cons_succ, i64_w, i32_w]
          rfl
        refine pure_ (i := 12) (N := some 10) (v := ?_) (a' := ?_) #[true, true, true, true, true, true, true, true, true, true, true, true, true] rfl rfl (by kernel_rfl) (fun _ _ _ h => h) (Or.inl ⟨by rfl, ?_⟩) ?_ ?_
        rotate_left
        · intro w'
          go_simp
          with_reducible rfl
        rotate_left
        · simp only [Act.put, List.setIfInBounds_toArray, List.set_cons_zero, List.set_cons_succ, i64_w, i32_w]
          rfl
        refine done_ (by kernel_rfl) ?_
        have HD5 := Lib.hid hd5
        have HV5 : Hid (∀ k, v5.ownBlock = some k → W.heap.size ≤ k) := Lib.hid (by
          rcases hm5 with e | e
          · exact fun k hk => HV2.out k (e ▸ hk)
          · exact fun k hk => Nat.le_trans HB2.out.size (e k hk))
        have HB5 := Lib.hid (OnlyD.below (below_drew HB2.out) ho5 HB2.out.size HPM.out.1 HPM.out.2 HV2.out)
        have hnx := Hnx.out
        clear hHeld hd5 hm5 ho5 r0 r1 p1 p2
        by_cases hok : okw 300 x
        · have hw0 : wcode 300 x = 0 := wcode_ok hok
          have HSt : Hid ((stepH 300 h x).length - h.length = 0 + 1) := Lib.hid (by rw [stepH_ok hok, List.length_append, List.length_singleton]; have := HLn.out; omega)
          clear hok
          go_wp2
          go_roundw
          case rel => exact ⟨i + 1, stepH 300 h x, h.length, v5, Hlt.out, by first | rfl | (rw [hnx]; rfl), by rw [HSt.out]; rfl, ⟨HS.out⟩, ⟨HD5.out⟩, ⟨HV5.out⟩, ⟨HB5.out⟩⟩
          case measure => have h1 := Hlt.out; first | (rw [hnx]; simp [ixOf, Go.RowKit.intOf]; omega) | (simp [ixOf, Go.RowKit.intOf]; omega)
        · have hw0 : (wcode 300 x == 0) = false := int_beq_no (wcode_no hok)
          have HSt : Hid ((stepH 300 h x).length - h.length = 0) := Lib.hid (by rw [stepH_no hok]; omega)
          clear hok
          go_wp2
          go_roundw
          case rel => exact ⟨i + 1, stepH 300 h x, h.length, v5, Hlt.out, by first | rfl | (rw [hnx]; rfl), by rw [HSt.out]; rfl, ⟨HS.out⟩, ⟨HD5.out⟩, ⟨HV5.out⟩, ⟨HB5.out⟩⟩
          case measure => have h1 := Hlt.out; first | (rw [hnx]; simp [ixOf, Go.RowKit.intOf]; omega) | (simp [ixOf, Go.RowKit.intOf]; omega)
      · have hmb : ((i : Int) == mark) = false := int_beq_no hmk
        have HS : Hid (wrt 300 mark l (i + 1) = (stepH 300 h x, kept)) := Lib.hid (by rw [wrt, HW.out, Hx.out, if_neg hmk])
        have HWr := Lib.hid (fun V (hb : Below wr.heap.size wr V) => write_any (HDi.out.below hb (Nat.le_refl _)) x (by have := HLn.out; have := HI40.out; omega))
        clear hmk
        go_upto_region 11 with fail
        refine start_ (n := 13) (S := fun w' => w'.cell? ⟨ab, ao + i * 2, none⟩ = some (.int .i64 x.1) ∧ w'.cell? ⟨ab, ao + i * 2 + 1, none⟩ = some (.string x.2)) (ds := [11]) #[false, false, false, false, false, false, false, false, false, false, false, false, false] (by kernel_rfl) rfl rfl ⟨q0, q1⟩ (fun hHeld => ?_)
        refine pure_ (i := 0) (N := some 32) (v := ?_) (a' := ?_) #[true, false, false, false, false, false, false, false, false, false, false, false, false] rfl rfl (by kernel_rfl) (fun _ _ _ h => h) (Or.inl ⟨by rfl, ?_⟩) ?_ ?_
        rotate_left
        · intro w'
          go_simp
          with_reducible rfl
        rotate_left
        · simp only [Act.put, List.setIfInBounds_toArray, List.set_cons_zero, List.set_cons_succ, i64_w, i32_w]
          rfl
        refine pure_ (i := 1) (N := some 33) (v := ?_) (a' := ?_) #[true, true, false, false, false, false, false, false, false, false, false, false, false] rfl rfl (by kernel_rfl) (fun _ _ _ h => h) (Or.inl ⟨by rfl, ?_⟩) ?_ ?_
        rotate_left
        · intro w'
          go_simp
          with_reducible rfl
        rotate_left
        · simp only [Act.put, List.setIfInBounds_toArray, List.set_cons_zero, List.set_cons_succ, i64_w, i32_w]
          rfl
        refine pure_ (i := 2) (N := some 34) (v := ?_) (a' := ?_) #[true, true, true, false, false, false, false, false, false, false, false, false, false] rfl rfl (by kernel_rfl) (fun _ _ _ h => h) (Or.inl ⟨by rfl, ?_⟩) ?_ ?_
        rotate_left
        · intro w'
          go_simp
          with_reducible rfl
        rotate_left
        · simp only [Act.put, List.setIfInBounds_toArray, List.set_cons_zero, List.set_cons_succ, i64_w, i32_w]
          rfl
        refine pure_ (i := 3) (N := some 35) (v := ?_) (a' := ?_) #[true, true, true, true, false, false, false, false, false, false, false, false, false] rfl rfl (by kernel_rfl) (fun _ _ _ h => h) (Or.inl ⟨by rfl, ?_⟩) ?_ ?_
        rotate_left
        · intro w'
          go_simp
          with_reducible rfl
        rotate_left
        · simp only [Act.put, List.setIfInBounds_toArray, List.set_cons_zero, List.set_cons_succ, i64_w, i32_w]
          rfl
        refine pure_ (i := 4) (N := some 36) (v := ?_) (a' := ?_) #[true, true, true, true, true, false, false, false, false, false, false, false, false] rfl rfl (by kernel_rfl) (fun _ _ _ h => h) (Or.inl ⟨by rfl, ?_⟩) ?_ ?_
        rotate_left
        · intro w'
          go_simp
          with_reducible rfl
        rotate_left
        · simp only [Act.put, List.setIfInBounds_toArray, List.set_cons_zero, List.set_cons_succ, i64_w, i32_w]
          rfl
        refine pure_ (i := 6) (N := some 38) (v := ?_) (a' := ?_) #[true, true, true, true, true, false, true, false, false, false, false, false, false] rfl rfl (by kernel_rfl) (fun _ _ _ h => h) (Or.inl ⟨by rfl, ?_⟩) ?_ ?_
        rotate_left
        · intro w'
          go_simp
          with_reducible rfl
        rotate_left
        · simp only [Act.put, List.setIfInBounds_toArray, List.set_cons_zero, List.set_cons_succ, i64_w, i32_w]
          rfl
        refine pure_ (i := 7) (N := some 39) (v := ?_) (a' := ?_) #[true, true, true, true, true, false, true, true, false, false, false, false, false] rfl rfl (by kernel_rfl) (fun _ _ _ h => h) (Or.inl ⟨by rfl, ?_⟩) ?_ ?_
        rotate_left
        · intro w'
          go_simp
          with_reducible rfl
        rotate_left
        · simp only [Act.put, List.setIfInBounds_toArray, List.set_cons_zero, List.set_cons_succ, i64_w, i32_w]
          rfl
        refine pure_ (i := 8) (N := some 40) (v := ?_) (a' := ?_) #[true, true, true, true, true, false, true, true, true, false, false, false, false] rfl rfl (by kernel_rfl) (fun _ _ _ h => h) (Or.inl ⟨by rfl, ?_⟩) ?_ ?_
        rotate_left
        · intro w'
          go_simp
          with_reducible rfl
        rotate_left
        · simp only [Act.put, List.setIfInBounds_toArray, List.set_cons_zero, List.set_cons_succ, i64_w, i32_w]
          rfl
        refine pure_ (i := 9) (N := some 41) (v := ?_) (a' := ?_) #[true, true, true, true, true, false, true, true, true, true, false, false, false] rfl rfl (by kernel_rfl) (fun _ _ _ h => h) (Or.inl ⟨by rfl, ?_⟩) ?_ ?_
        rotate_left
        · intro w'
          go_simp
          with_reducible rfl
        rotate_left
        · simp only [Act.put, List.setIfInBounds_toArray, List.set_cons_zero, List.set_cons_succ, i64_w, i32_w]
          rfl
        refine take_ (i := 5) (N := some 37) (v := ?_) (a' := ?_) #[true, true, true, true, true, true, true, true, true, true, false, false, false] rfl rfl (by kernel_rfl) (fun _ _ _ h => h) (Or.inl ⟨by rfl, ?_⟩) hHeld ?_ ?_
        rotate_left
        · rintro w' ⟨s0, s1⟩
          go_simp
          with_reducible rfl
        rotate_left
        · simp only [Act.put, List.setIfInBounds_toArray, List.set_cons_zero, List.set_cons_succ, i64_w, i32_w]
          rfl
        refine take_ (i := 10) (N := some 42) (v := ?_) (a' := ?_) #[true, true, true, true, true, true, true, true, true, true, true, false, false] rfl rfl (by kernel_rfl) (fun _ _ _ h => h) (Or.inl ⟨by rfl, ?_⟩) hHeld ?_ ?_
        rotate_left
        · rintro w' ⟨s0, s1⟩
          go_simp
          with_reducible rfl
        rotate_left
        · simp only [Act.put, List.setIfInBounds_toArray, List.set_cons_zero, List.set_cons_succ, i64_w, i32_w]
          rfl
        refine last_ (i := 11) (N := some 43) #[true, true, true, true, true, true, true, true, true, true, true, true, false] rfl rfl (by kernel_rfl) (by decide) (fun K hK => ?_)
        refine goes_ Tryd.func12 (by kernel_rfl) rfl #[.pointer (some ⟨p, 0, none⟩), .int .i64 x.1, .string x.2] (by rfl) rfl rfl (by simp only [List.map_toArray, List.map_cons, List.map_nil]; rfl) ?_
        with_reducible refine (HWr.out _ (below_drew (Below.refl _ _))).mono ?_
        rintro e w5 ⟨rfl, ⟨v5, hd5, hm5⟩, ho5⟩
        refine ⟨_, rfl, ?_⟩
        refine hK.out _ _ ?_
        clear hK K
        refine norm_ (a' := ?_) ?_ ?_
        rotate_left
        · show Act.put _ (some 43) _ = _
          simp only [Act.put, List.setIfInBounds_toArray, List.set_cons_zero, List.set_cons_succ, i64_w, i32_w]
          rfl
        refine pure_ (i := 12) (N := some 10) (v := ?_) (a' := ?_) #[true, true, true, true, true, true, true, true, true, true, true, true, true] rfl rfl (by kernel_rfl) (fun _ _ _ h => h) (Or.inl ⟨by rfl, ?_⟩) ?_ ?_
        rotate_left
        · intro w'
          go_simp
          with_reducible rfl
        rotate_left
        · simp only [Act.put, List.setIfInBounds_toArray, List.set_cons_zero, List.set_cons_succ, i64_w, i32_w]
          rfl
        refine done_ (by kernel_rfl) ?_
        have HD5 := Lib.hid hd5
        have HV5 : Hid (∀ k, v5.ownBlock = some k → W.heap.size ≤ k) := Lib.hid (by
          rcases hm5 with e | e
          · exact fun k hk => HVi.out k (e ▸ hk)
          · exact fun k hk => Nat.le_trans HBi.out.size (e k hk))
        have HB5 := Lib.hid (OnlyD.below (below_drew HBi.out) ho5 HBi.out.size HPM.out.1 HPM.out.2 HVi.out)
        have hnx := Hnx.out
        have hnc := Hnc.out
        clear hHeld hd5 hm5 ho5 q0 q1 p1 p2
        by_cases hok : okw 300 x
        · have hw0 : wcode 300 x = 0 := wcode_ok hok
          have HSt : Hid ((stepH 300 h x).length - kept = cnt + 1) := Lib.hid (by rw [stepH_ok hok, List.length_append, List.length_singleton]; have := HLn.out; have := HCn.out; omega)
          clear hok
          go_wp2
          go_roundw
          case rel => exact ⟨i + 1, stepH 300 h x, kept, v5, Hlt.out, by first | rfl | (rw [hnx]; rfl), by rw [HSt.out]; first | rfl | (rw [hnc]; rfl), ⟨HS.out⟩, ⟨HD5.out⟩, ⟨HV5.out⟩, ⟨HB5.out⟩⟩
          case measure => have h1 := Hlt.out; first | (rw [hnx]; simp [ixOf, Go.RowKit.intOf]; omega) | (simp [ixOf, Go.RowKit.intOf]; omega)
        · have hw0 : (wcode 300 x == 0) = false := int_beq_no (wcode_no hok)
          have HSt : Hid ((stepH 300 h x).length - kept = cnt) := Lib.hid (by rw [stepH_no hok]; exact HCn.out)
          clear hok
          go_wp2
          go_roundw
          case rel => exact ⟨i + 1, stepH 300 h x, kept, v5, Hlt.out, by first | rfl | (rw [hnx]; rfl), by rw [HSt.out], ⟨HS.out⟩, ⟨HD5.out⟩, ⟨HV5.out⟩, ⟨HB5.out⟩⟩
          case measure => have h1 := Hlt.out; first | (rw [hnx]; simp [ixOf, Go.RowKit.intOf]; omega) | (simp [ixOf, Go.RowKit.intOf]; omega)
    · obtain rfl : i = m := by omega
      have hE : ¬ (i < N ∧ i < 40) := by have := Hm.out; omega
      have HF : Hid ((wrt 300 mark l i).1 = h ∧ (wrt 300 mark l i).2 = kept) := Lib.hid (by rw [HW.out]; exact ⟨rfl, rfl⟩)
      clear hlt hi
      by_cases h1 : i < N
      · have hd := decide_eq_true (show (i : Int) < (N : Int) by omega)
        have hdn := decide_eq_true h1
        have hd4 := decide_eq_false (show ¬ (i : Int) < 40 by omega)
        have hd4n := decide_eq_false (show ¬ i < 40 by omega)
        clear hE h1
        go_wp2
        go_ret2
        exact ⟨p, M, v, by rw [HF.out.1, HF.out.2, HCn.out]; rfl, by rw [HF.out.1, HF.out.2]; exact HDi.out, HPM.out.1, HPM.out.2, HVi.out, HBi.out⟩
      · have hd := decide_eq_false (show ¬ (i : Int) < (N : Int) by omega)
        have hdn := decide_eq_false h1
        clear hE h1
        go_wp2
        go_ret2
        exact ⟨p, M, v, by rw [HF.out.1, HF.out.2, HCn.out]; rfl, by rw [HF.out.1, HF.out.2]; exact HDi.out, HPM.out.1, HPM.out.2, HVi.out, HBi.out⟩
end Go.Proofs.YteooldbdilkmeaaDoor.SC

namespace Go.Proofs.YteooldbdilkmeaaDoor.SC
open Go.RowKit Go.Maps Go.Proofs.YteooldbdilkmeaaDoorW.PrintWords Go.Proofs.YteooldbdilkmeaaDoorW.PrintLast Go.Proofs.YteooldbdilkmeaaDoorW.PrintMore
set_option linter.unusedVariables false
set_option linter.unusedSimpArgs false
theorem usedI_at (n : Nat) (f : Nat → ByteArray) (j : Nat) (hj : j < (usedI n f).length) : ∃ x : Nat, rd (usedI n f) (j : Int) = (x : Int) ∧ x < n := by
  unfold usedI at hj ⊢
  rw [List.length_map] at hj
  refine ⟨(used n f)[j], ?_, ((used_mem _).1 (List.getElem_mem hj)).1⟩
  unfold rd
  rw [Int.toNat_natCast, List.getD_eq_getElem?_getD, List.getElem?_map, List.getElem?_eq_getElem hj]
  rfl
theorem usedI_le (n : Nat) (f : Nat → ByteArray) : (usedI n f).length ≤ n := by unfold usedI; rw [List.length_map]; exact used_le n f
set_option maxHeartbeats 4000000 in
set_option maxRecDepth 100000 in
theorem alike_calls {W : World} {p1 M1 n k1 p2 M2 k2 : Nat} {v1 v2 : Value} {h1 h2 : Hist} (H1 : DkAt W p1 M1 v1 n h1 k1) (H2 : DkAt W p2 M2 v2 n h2 k2) (hc : cont h1 = cont h2) :
    Calls Tryd.prog 14 #[.pointer (some ⟨p1, 0, none⟩), .pointer (some ⟨p2, 0, none⟩)] W fun e w' => e = .returned (.bool true) ∧ Below W.heap.size W w' := by
  have HA := Lib.hid H1
  have HB := Lib.hid H2
  have HL1 := Lib.hid (len_calls H1)
  have HNN := Lib.hid H1.nn
  have Hc := Lib.hid hc
  clear H1 H2 hc
  go_enter Tryd.func14, Tryd.ntmps14
  go_wp2_with fail
  refine HL1.out.mono ?_; rintro e w1 ⟨rfl, hb1⟩
  have HB1 := Lib.hid hb1
  have HL2 := Lib.hid (len_calls (HB.out.below hb1 (Nat.le_refl _)))
  clear hb1 HL1
  go_wp2_with fail
  refine HL2.out.mono ?_; rintro e w2 ⟨rfl, hb2⟩
  have HB2 := Lib.hid (below_step HB1.out hb2)
  have HU := Lib.hid (used_calls (HA.out.below HB2.out (Nat.le_refl _)))
  clear hb2 HL2
  go_wp2_with fail
  refine HU.out.mono ?_; rintro e w3 ⟨u3, rfl, hu3, hb3⟩
  have HB3 := Lib.hid (below_step HB2.out hb3)
  have HU3 := Lib.hid (own_weaken hu3 HB2.out.size)
  have HV := Lib.hid (used_calls (HB.out.below HB3.out (Nat.le_refl _)))
  rw [← Hc.out] at HV
  clear hu3 hb3 HU
  go_wp2_with fail
  refine HV.out.mono ?_; rintro e w4 ⟨u4, rfl, hu4, hb4⟩
  have HB4 := Lib.hid (below_step HB3.out hb4)
  have HU4 := Lib.hid (own_weaken hu4 HB3.out.size)
  have HU34 := Lib.hid (pw_own_below HU3.out hb4)
  clear hu4 hb4 HV HU3
  obtain ⟨A3, c3, rfl⟩ := own_slice HU34.out
  obtain ⟨A4, c4, rfl⟩ := own_slice HU4.out
  have HLe := Lib.hid (usedI_le n (cont h1))
  have HAt := Lib.hid (usedI_at n (cont h1))
  obtain ⟨us, hus⟩ : ∃ x, usedI n (cont h1) = x := ⟨_, rfl⟩
  rw [hus] at HU34 HU4 HLe HAt
  rw [hus]
  obtain ⟨L, hL⟩ : ∃ x, us.length = x := ⟨_, rfl⟩
  rw [hL] at HU34 HU4 HLe HAt
  rw [hL]
  clear hus hL
  go_wp2_with fail
  go_loopw [7] (fun iv V => ∃ (i : Nat), i ≤ L ∧ iv = .int .i64 (i : Int) ∧ Aside0 (V.ownsRow W.heap.size 3 1 (.slice A3 L c3) L (nums .i64 us)) ∧ Aside0 (V.ownsRow W.heap.size 3 1 (.slice A4 L c4) L (nums .i64 us)) ∧ Aside0 (Below W.heap.size W V)) (fun iv _ => L - (ixOf iv).toNat)
  case atStart => exact ⟨0, Nat.zero_le _, rfl, ⟨HU34.out⟩, ⟨HU4.out⟩, ⟨HB4.out⟩⟩
  case round =>
    obtain ⟨i, hi, rfl, ⟨hr3⟩, ⟨hr4⟩, ⟨hb⟩⟩ := hrel
    have HR3 := Lib.hid hr3
    have HR4 := Lib.hid hr4
    have HBi := Lib.hid hb
    clear hr3 hr4 hb HU34 HU4 HB4
    by_cases hlt : i < L
    · have hd := decide_eq_true (show (i : Int) < (L : Int) by omega)
      have hdn := decide_eq_true hlt
      obtain ⟨x, hx, hxn⟩ := HAt.out i hlt
      obtain ⟨G3, _, e3, _⟩ := HR3.out.form (by omega)
      obtain ⟨G4, _, e4, _⟩ := HR4.out.form (by omega)
      have e30 := (Value.slice.inj e3).1
      have e40 := (Value.slice.inj e4).1
      subst e30
      subst e40
      have q3 := (own_at HR3.out (i : Int) (by omega) (by omega)).1
      have q4 := (own_at HR4.out (i : Int) (by omega) (by omega)).1
      rw [Int.toNat_natCast, hx] at q3 q4
      have HQ : Hid (∀ V, Below wr.heap.size wr V → V.cell? ⟨G3, i, none⟩ = some (.int .i64 (x : Int)) ∧ V.cell? ⟨G4, i, none⟩ = some (.int .i64 (x : Int))) := Lib.hid (fun V hb => by
        have a3 := (own_at (pw_own_below HR3.out hb) (i : Int) (by omega) (by omega)).1
        have a4 := (own_at (pw_own_below HR4.out hb) (i : Int) (by omega) (by omega)).1
        rw [Int.toNat_natCast, hx] at a3 a4
        exact ⟨a3, a4⟩)
      have HRd := Lib.hid (read_calls (HA.out.below HBi.out (Nat.le_refl _)) x hxn)
      have HRd2 := Lib.hid (fun V (hb : Below wr.heap.size wr V) => read_calls ((HB.out.below HBi.out (Nat.le_refl _)).below hb (Nat.le_refl _)) x hxn)
      rw [← Hc.out] at HRd2
      obtain ⟨S, hS⟩ : ∃ S, full (cont h1 x) = S := ⟨_, rfl⟩
      rw [hS] at HRd HRd2
      have p1 : (0 ≤ (i : Int)) = True := eq_true (by omega)
      have p2 : ((i : Int) < (L : Int)) = True := eq_true (by omega)
      have hnx : wrap64 ((i : Int) + 1) = (i : Int) + 1 := by have := HLe.out; have := HNN.out; clear hd p1 p2 hx; unfold wrap64; omega
      have Hlt := Lib.hid hlt
      have Hnx := Lib.hid hnx
      clear e3 e4 hx hxn hS hlt hi hnx
      go_wp2_with fail
      refine HRd.out.mono ?_; rintro e w5 ⟨rfl, hb5⟩
      have HW5 := Lib.hid hb5
      obtain ⟨q3', q4'⟩ := HQ.out _ HW5.out
      clear hb5 q3 q4
      go_wp2_with fail
      refine (HRd2.out _ HW5.out).mono ?_; rintro e w6 ⟨rfl, hb6⟩
      have HW6 := Lib.hid (below_step HW5.out hb6)
      obtain ⟨r3, r4⟩ := HQ.out _ HW6.out
      clear hb6 q3' q4'
      go_upto_region 11 with fail
      refine start_ (n := 22) (S := fun w' => w'.cell? ⟨G3, i, none⟩ = some (.int .i64 (x : Int)) ∧ w'.cell? ⟨G4, i, none⟩ = some (.int .i64 (x : Int))) (ds := []) #[false, false, false, false, false, false, false, false, false, false, false, false, false, false, false, false, false, false, false, false, false, false] (by kernel_rfl) rfl rfl ⟨r3, r4⟩ (fun hHeld => ?_)
      refine pure_ (i := 0) (N := some 58) (v := ?_) (a' := ?_) #[true, false, false, false, false, false, false, false, false, false, false, false, false, false, false, false, false, false, false, false, false, false] rfl rfl (by kernel_rfl) (fun _ _ _ h => h) (Or.inl ⟨by rfl, ?_⟩) ?_ ?_
      rotate_left
      · intro w'
        go_simp
        with_reducible rfl
      rotate_left
      · simp only [Act.put, List.setIfInBounds_toArray, List.set_cons_zero, List.set_cons_succ, i64_w, i32_w]
        rfl
      refine pure_ (i := 1) (N := some 59) (v := ?_) (a' := ?_) #[true, true, false, false, false, false, false, false, false, false, false, false, false, false, false, false, false, false, false, false, false, false] rfl rfl (by kernel_rfl) (fun _ _ _ h => h) (Or.inl ⟨by rfl, ?_⟩) ?_ ?_
      rotate_left
      · intro w'
        go_simp
        with_reducible rfl
      rotate_left
      · simp only [Act.put, List.setIfInBounds_toArray, List.set_cons_zero, List.set_cons_succ, i64_w, i32_w]
        rfl
      refine pure_ (i := 2) (N := some 60) (v := ?_) (a' := ?_) #[true, true, true, false, false, false, false, false, false, false, false, false, false, false, false, false, false, false, false, false, false, false] rfl rfl (by kernel_rfl) (fun _ _ _ h => h) (Or.inl ⟨by rfl, ?_⟩) ?_ ?_
      rotate_left
      · intro w'
        go_simp
        with_reducible rfl
      rotate_left
      · simp only [Act.put, List.setIfInBounds_toArray, List.set_cons_zero, List.set_cons_succ, i64_w, i32_w]
        rfl
      refine pure_ (i := 4) (N := some 62) (v := ?_) (a' := ?_) #[true, true, true, false, true, false, false, false, false, false, false, false, false, false, false, false, false, false, false, false, false, false] rfl rfl (by kernel_rfl) (fun _ _ _ h => h) (Or.inl ⟨by rfl, ?_⟩) ?_ ?_
      rotate_left
      · intro w'
        go_simp
        with_reducible rfl
      rotate_left
      · simp only [Act.put, List.setIfInBounds_toArray, List.set_cons_zero, List.set_cons_succ, i64_w, i32_w]
        rfl
      refine pure_ (i := 5) (N := some 63) (v := ?_) (a' := ?_) #[true, true, true, false, true, true, false, false, false, false, false, false, false, false, false, false, false, false, false, false, false, false] rfl rfl (by kernel_rfl) (fun _ _ _ h => h) (Or.inl ⟨by rfl, ?_⟩) ?_ ?_
      rotate_left
      · intro w'
        go_simp
        with_reducible rfl
      rotate_left
      · simp only [Act.put, List.setIfInBounds_toArray, List.set_cons_zero, List.set_cons_succ, i64_w, i32_w]
        rfl
      refine pure_ (i := 6) (N := some 64) (v := ?_) (a' := ?_) #[true, true, true, false, true, true, true, false, false, false, false, false, false, false, false, false, false, false, false, false, false, false] rfl rfl (by kernel_rfl) (fun _ _ _ h => h) (Or.inl ⟨by rfl, ?_⟩) ?_ ?_
      rotate_left
      · intro w'
        go_simp
        with_reducible rfl
      rotate_left
      · simp only [Act.put, List.setIfInBounds_toArray, List.set_cons_zero, List.set_cons_succ, i64_w, i32_w]
        rfl
      refine take_ (i := 3) (N := some 61) (v := ?_) (a' := ?_) #[true, true, true, true, true, true, true, false, false, false, false, false, false, false, false, false, false, false, false, false, false, false] rfl rfl (by kernel_rfl) (fun _ _ _ h => h) (Or.inl ⟨by rfl, ?_⟩) hHeld ?_ ?_
      rotate_left
      · rintro w' ⟨s0, s1⟩
        go_simp
        with_reducible rfl
      rotate_left
      · simp only [Act.put, List.setIfInBounds_toArray, List.set_cons_zero, List.set_cons_succ, i64_w, i32_w]
        rfl
      refine take_ (i := 7) (N := some 65) (v := ?_) (a' := ?_) #[true, true, true, true, true, true, true, true, false, false, false, false, false, false, false, false, false, false, false, false, false, false] rfl rfl (by kernel_rfl) (fun _ _ _ h => h) (Or.inl ⟨by rfl, ?_⟩) hHeld ?_ ?_
      rotate_left
      · rintro w' ⟨s0, s1⟩
        go_simp
        with_reducible rfl
      rotate_left
      · simp only [Act.put, List.setIfInBounds_toArray, List.set_cons_zero, List.set_cons_succ, i64_w, i32_w]
        rfl
      refine pure_ (i := 8) (N := some 66) (v := ?_) (a' := ?_) #[true, true, true, true, true, true, true, true, true, false, false, false, false, false, false, false, false, false, false, false, false, false] rfl rfl (by kernel_rfl) (fun _ _ _ h => h) (Or.inl ⟨by rfl, ?_⟩) ?_ ?_
      rotate_left
      · intro w'
        go_simp
        with_reducible rfl
      rotate_left
      · simp only [Act.put, List.setIfInBounds_toArray, List.set_cons_zero, List.set_cons_succ, i64_w, i32_w]
        rfl
      refine pure_ (i := 9) (N := some 67) (v := ?_) (a' := ?_) #[true, true, true, true, true, true, true, true, true, true, false, false, false, false, false, false, false, false, false, false, false, false] rfl rfl (by kernel_rfl) (fun _ _ _ h => h) (Or.inl ⟨by rfl, ?_⟩) ?_ ?_
      rotate_left
      · intro w'
        go_simp
        with_reducible rfl
      rotate_left
      · simp only [Act.put, List.setIfInBounds_toArray, List.set_cons_zero, List.set_cons_succ, i64_w, i32_w]
        rfl
      refine pure_ (i := 10) (N := some 68) (v := ?_) (a' := ?_) #[true, true, true, true, true, true, true, true, true, true, true, false, false, false, false, false, false, false, false, false, false, false] rfl rfl (by kernel_rfl) (fun _ _ _ h => h) (Or.inl ⟨by rfl, ?_⟩) ?_ ?_
      rotate_left
      · intro w'
        go_simp
        with_reducible rfl
      rotate_left
      · simp only [Act.put, List.setIfInBounds_toArray, List.set_cons_zero, List.set_cons_succ, i64_w, i32_w]
        rfl
      refine pure_ (i := 11) (N := some 69) (v := ?_) (a' := ?_) #[true, true, true, true, true, true, true, true, true, true, true, true, false, false, false, false, false, false, false, false, false, false] rfl rfl (by kernel_rfl) (fun _ _ _ h => h) (Or.inl ⟨by rfl, ?_⟩) ?_ ?_
      rotate_left
      · intro w'
        go_simp
        with_reducible rfl
      rotate_left
      · simp only [Act.put, List.setIfInBounds_toArray, List.set_cons_zero, List.set_cons_succ, i64_w, i32_w]
        rfl
      refine pure_ (i := 12) (N := some 70) (v := ?_) (a' := ?_) #[true, true, true, true, true, true, true, true, true, true, true, true, true, false, false, false, false, false, false, false, false, false] rfl rfl (by kernel_rfl) (fun _ _ _ h => h) (Or.inl ⟨by rfl, ?_⟩) ?_ ?_
      rotate_left
      · intro w'
        go_simp
        with_reducible rfl
      rotate_left
      · simp only [Act.put, List.setIfInBounds_toArray, List.set_cons_zero, List.set_cons_succ, i64_w, i32_w]
        rfl
      refine pure_ (i := 13) (N := some 71) (v := ?_) (a' := ?_) #[true, true, true, true, true, true, true, true, true, true, true, true, true, true, false, false, false, false, false, false, false, false] rfl rfl (by kernel_rfl) (fun _ _ _ h => h) (Or.inl ⟨by rfl, ?_⟩) ?_ ?_
      rotate_left
      · intro w'
        go_simp
        with_reducible rfl
      rotate_left
      · simp only [Act.put, List.setIfInBounds_toArray, List.set_cons_zero, List.set_cons_succ, i64_w, i32_w]
        rfl
      refine pure_ (i := 14) (N := some 72) (v := ?_) (a' := ?_) #[true, true, true, true, true, true, true, true, true, true, true, true, true, true, true, false, false, false, false, false, false, false] rfl rfl (by kernel_rfl) (fun _ _ _ h => h) (Or.inl ⟨by rfl, ?_⟩) ?_ ?_
      rotate_left
      · intro w'
        go_simp
        with_reducible rfl
      rotate_left
      · simp only [Act.put, List.setIfInBounds_toArray, List.set_cons_zero, List.set_cons_succ, i64_w, i32_w]
        rfl
      refine pure_ (i := 15) (N := some 73) (v := ?_) (a' := ?_) #[true, true, true, true, true, true, true, true, true, true, true, true, true, true, true, true, false, false, false, false, false, false] rfl rfl (by kernel_rfl) (fun _ _ _ h => h) (Or.inl ⟨by rfl, ?_⟩) ?_ ?_
      rotate_left
      · intro w'
        go_simp
        with_reducible rfl
      rotate_left
      · simp only [Act.put, List.setIfInBounds_toArray, List.set_cons_zero, List.set_cons_succ, i64_w, i32_w]
        rfl
      refine pure_ (i := 16) (N := some 74) (v := ?_) (a' := ?_) #[true, true, true, true, true, true, true, true, true, true, true, true, true, true, true, true, true, false, false, false, false, false] rfl rfl (by kernel_rfl) (fun _ _ _ h => h) (Or.inl ⟨by rfl, ?_⟩) ?_ ?_
      rotate_left
      · intro w'
        go_simp
        with_reducible rfl
      rotate_left
      · simp only [Act.put, List.setIfInBounds_toArray, List.set_cons_zero, List.set_cons_succ, i64_w, i32_w]
        rfl
      refine pure_ (i := 17) (N := some 75) (v := ?_) (a' := ?_) #[true, true, true, true, true, true, true, true, true, true, true, true, true, true, true, true, true, true, false, false, false, false] rfl rfl (by kernel_rfl) (fun _ _ _ h => h) (Or.inl ⟨by rfl, ?_⟩) ?_ ?_
      rotate_left
      · intro w'
        go_simp
        with_reducible rfl
      rotate_left
      · simp only [Act.put, List.setIfInBounds_toArray, List.set_cons_zero, List.set_cons_succ, i64_w, i32_w]
        rfl
      refine pure_ (i := 18) (N := some 76) (v := ?_) (a' := ?_) #[true, true, true, true, true, true, true, true, true, true, true, true, true, true, true, true, true, true, true, false, false, false] rfl rfl (by kernel_rfl) (fun _ _ _ h => h) (Or.inl ⟨by rfl, ?_⟩) ?_ ?_
      rotate_left
      · intro w'
        go_simp
        with_reducible rfl
      rotate_left
      · simp only [Act.put, List.setIfInBounds_toArray, List.set_cons_zero, List.set_cons_succ, i64_w, i32_w]
        rfl
      refine pure_ (i := 19) (N := some 77) (v := ?_) (a' := ?_) #[true, true, true, true, true, true, true, true, true, true, true, true, true, true, true, true, true, true, true, true, false, false] rfl rfl (by kernel_rfl) (fun _ _ _ h => h) (Or.inl ⟨by rfl, ?_⟩) ?_ ?_
      rotate_left
      · intro w'
        go_simp
        with_reducible rfl
      rotate_left
      · simp only [Act.put, List.setIfInBounds_toArray, List.set_cons_zero, List.set_cons_succ, i64_w, i32_w]
        rfl
      refine pure_ (i := 20) (N := some 78) (v := ?_) (a' := ?_) #[true, true, true, true, true, true, true, true, true, true, true, true, true, true, true, true, true, true, true, true, true, false] rfl rfl (by kernel_rfl) (fun _ _ _ h => h) (Or.inl ⟨by rfl, ?_⟩) ?_ ?_
      rotate_left
      · intro w'
        go_simp
        with_reducible rfl
      rotate_left
      · simp only [Act.put, List.setIfInBounds_toArray, List.set_cons_zero, List.set_cons_succ, i64_w, i32_w]
        rfl
      refine pure_ (i := 21) (N := some 79) (v := ?_) (a' := ?_) #[true, true, true, true, true, true, true, true, true, true, true, true, true, true, true, true, true, true, true, true, true, true] rfl rfl (by kernel_rfl) (fun _ _ _ h => h) (Or.inl ⟨by rfl, ?_⟩) ?_ ?_
      rotate_left
      · intro w'
        go_simp
        with_reducible rfl
      rotate_left
      · simp only [Act.put, List.setIfInBounds_toArray, List.set_cons_zero, List.set_cons_succ, i64_w, i32_w]
        rfl
      refine done_ (by kernel_rfl) ?_
      have hnx := Hnx.out
      have HR36 := Lib.hid (pw_own_below HR3.out (below_drew HW6.out))
      have HR46 := Lib.hid (pw_own_below HR4.out (below_drew HW6.out))
      have HB6 := Lib.hid (below_step HBi.out (below_drew HW6.out))
      clear hHeld r3 r4 p1 p2
      go_wp2
      go_roundw
      case rel => exact ⟨i + 1, Hlt.out, by first | rfl | (rw [hnx]; rfl), ⟨HR36.out⟩, ⟨HR46.out⟩, ⟨HB6.out⟩⟩
      case measure => have h1 := Hlt.out; first | (rw [hnx]; simp [ixOf, Go.RowKit.intOf]; omega) | (simp [ixOf, Go.RowKit.intOf]; omega)
    · obtain rfl : i = L := by omega
      have hd := decide_eq_false (show ¬ (i : Int) < (i : Int) by omega)
      clear hlt hi
      go_wp2
      go_ret
      exact ⟨rfl, HBi.out⟩
end Go.Proofs.YteooldbdilkmeaaDoor.SC

namespace Go.Proofs.YteooldbdilkmeaaDoor.SC
open Go.RowKit Go.Maps Go.Proofs.YteooldbdilkmeaaDoorW.PrintWords Go.Proofs.YteooldbdilkmeaaDoorW.PrintLast Go.Proofs.YteooldbdilkmeaaDoorW.PrintMore
set_option linter.unusedVariables false
set_option linter.unusedSimpArgs false
end Go.Proofs.YteooldbdilkmeaaDoor.SC

namespace Go.Proofs.YteooldbdilkmeaaDoor.SC
open Go.RowKit Go.Maps Go.Proofs.YteooldbdilkmeaaDoorW.PrintWords Go.Proofs.YteooldbdilkmeaaDoorW.PrintLast Go.Proofs.YteooldbdilkmeaaDoorW.PrintMore
set_option linter.unusedVariables false
set_option linter.unusedSimpArgs false
theorem nx_small {i : Nat} (h : i ≤ 1000000) : wrap64 ((i : Int) + 1) = (i : Int) + 1 := by unfold wrap64; omega
theorem OwnA.at_ {W : World} {base : Nat} {ok : Nat → Prop} {A : Option Addr} {n c : Nat} {xs : List Wa} (h : kA.R 31 W base ok (.slice A n c) xs) (hn : xs.length = n) (i : Nat) (hi : i < n) : ∃ g, A = some ⟨g, 0, none⟩ ∧ W.cell? ⟨g, i * 2, none⟩ = some (.int .i64 (xs.getD i (0, E0)).1) ∧ W.cell? ⟨g, i * 2 + 1, none⟩ = some (.string (xs.getD i (0, E0)).2) := by
  obtain ⟨g, cap, hv, _⟩ := Kd.R_form h (by omega)
  have hA := (Value.slice.inj hv).1
  subst hA
  obtain ⟨_, _, hC⟩ := Kd.R_reads' h
  obtain ⟨b, o, hb, h0, h1⟩ := la_at hC i (by omega)
  injection hb with hb
  injection hb with hb ho
  subst hb; subst ho
  rw [Nat.zero_add] at h0 h1
  exact ⟨g, rfl, h0, h1⟩
end Go.Proofs.YteooldbdilkmeaaDoor.SC

namespace Go.Proofs.YteooldbdilkmeaaDoor.SC
open Go.RowKit Go.Maps Go.Proofs.YteooldbdilkmeaaDoorW.PrintWords Go.Proofs.YteooldbdilkmeaaDoorW.PrintLast Go.Proofs.YteooldbdilkmeaaDoorW.PrintMore
set_option linter.unusedVariables false
set_option linter.unusedSimpArgs false
def pour (h : Hist) (m : List Wa) : Nat → Hist
  | 0 => h
  | i + 1 => stepH 300 (pour h m i) (m.getD i (0, E0))
theorem pour_len (h : Hist) (m : List Wa) : ∀ i, (pour h m i).length ≤ h.length + i
  | 0 => Nat.le_refl _
  | i + 1 => by
    have ih := pour_len h m i
    have := stepH_len 300 (pour h m i) (m.getD i (0, E0))
    show (stepH 300 (pour h m i) (m.getD i (0, E0))).length ≤ h.length + (i + 1)
    omega
structure Ds where
  p : Nat
  M : Nat
  v : Value
  h : Hist
  k : Nat
def Ds.At (d : Ds) (V : World) : Prop := DkAt V d.p d.M d.v 300 d.h d.k
def Ds.Ap (d : Ds) (p M : Nat) (v : Value) : Prop := d.p ≠ p ∧ d.M ≠ M ∧ ∀ k, d.v.ownBlock = some k → v.ownBlock ≠ some k
theorem Ds.keep {d : Ds} {V V' : World} {p M : Nat} {v : Value} {h : Hist} {k : Nat} (H : d.At V) (H' : DkAt V p M v 300 h k) (o : OnlyD p M v V V') (ap : d.Ap p M v) : d.At V' := DkAt.other H H' o ap.1 ap.2.1 ap.2.2
theorem Ds.moved {d : Ds} {V : World} {p M : Nat} {v v' : Value} (H : d.At V) (ap : d.Ap p M v) (hm : Moved V v v') : d.Ap p M v' := ⟨ap.1, ap.2.1, fun k hk e => by
  rcases hm with hm | hm
  · exact ap.2.2 k hk (hm ▸ e)
  · have := hm k e
    have : k < V.heap.size := DkAt.lt H |>.2.2 k hk
    omega⟩
theorem Ds.below {d : Ds} {V V' : World} (H : d.At V) {n : Nat} (hb : Below n V V') (hn : V.heap.size ≤ n) : d.At V' := DkAt.below H hb hn
theorem Ds.ap_over {d : Ds} {B p M : Nat} {v : Value} (hd : d.p < B ∧ d.M < B ∧ ∀ k, d.v.ownBlock = some k → k < B) (ho : B ≤ p ∧ B ≤ M ∧ ∀ k, v.ownBlock = some k → B ≤ k) : d.Ap p M v := ⟨by omega, by omega, fun k hk e => by have := hd.2.2 k hk; have := ho.2.2 k e; omega⟩
theorem Ds.ap_under {d : Ds} {B p M : Nat} {v : Value} (hd : B ≤ d.p ∧ B ≤ d.M ∧ ∀ k, d.v.ownBlock = some k → B ≤ k) (ho : p < B ∧ M < B ∧ ∀ k, v.ownBlock = some k → k < B) : d.Ap p M v := ⟨by omega, by omega, fun k hk e => by have := hd.2.2 k hk; have := ho.2.2 k e; omega⟩
def Ds.over (d : Ds) (B : Nat) : Prop := B ≤ d.p ∧ B ≤ d.M ∧ ∀ k, d.v.ownBlock = some k → B ≤ k
theorem moved_over {V : World} {B : Nat} {v v' : Value} (hm : Moved V v v') (h : ∀ k, v.ownBlock = some k → B ≤ k) (hB : B ≤ V.heap.size) : ∀ k, v'.ownBlock = some k → B ≤ k := fun k hk => by
  rcases hm with e | e
  · exact h k (e ▸ hk)
  · exact Nat.le_trans hB (e k hk)
structure Two (w2 V : World) (a b : Ds) (h : Hist) : Prop where
  qa : a.At V
  qb : b.At V
  ha : a.h = h
  hb : b.h = h
  ap : b.Ap a.p a.M a.v
  oa : a.over w2.heap.size
  ob : b.over w2.heap.size
  below : Below w2.heap.size w2 V
theorem Two.drew {w2 V : World} {a b : Ds} {h : Hist} (T : Two w2 V a b h) : Two w2 V.drew a b h := ⟨T.qa.below (below_drew (Below.refl _ _)) (Nat.le_refl _), T.qb.below (below_drew (Below.refl _ _)) (Nat.le_refl _), T.ha, T.hb, T.ap, T.oa, T.ob, below_drew T.below⟩
theorem Two.writeA {w2 V : World} {a b : Ds} {h : Hist} (T : Two w2 V a b h) (x : Wa) (hl : h.length ≤ 1000000) :
    Calls Tryd.prog 12 #[.pointer (some ⟨a.p, 0, none⟩), .int .i64 x.1, .string x.2] V fun e w' => e = .returned (.int .i64 (wcode 300 x)) ∧ ∃ v', (⟨a.p, a.M, v', stepH 300 h x, a.k⟩ : Ds).At w' ∧ b.At w' ∧ b.Ap a.p a.M v' ∧ (∀ k, v'.ownBlock = some k → w2.heap.size ≤ k) ∧ Below w2.heap.size w2 w' := by
  have H : DkAt V a.p a.M a.v 300 h a.k := by have := T.qa; unfold Ds.At at this; rw [T.ha] at this; exact this
  exact (write_any H x hl).mono fun e w' ⟨he, ⟨v', hd, hm⟩, ho⟩ => ⟨he, v', hd, Ds.keep (d := b) T.qb T.qa ho T.ap, Ds.moved (d := b) T.qb T.ap hm, moved_over hm T.oa.2.2 T.below.size, OnlyD.below T.below ho T.below.size T.oa.1 T.oa.2.1 T.oa.2.2⟩
theorem Two.writeB {w2 V : World} {a b : Ds} {h h' : Hist} (H : a.At V) (hah : a.h = h') (Hb : b.At V) (hbh : b.h = h) (ap : b.Ap a.p a.M a.v) (oa : a.over w2.heap.size) (ob : b.over w2.heap.size) (hbl : Below w2.heap.size w2 V) (x : Wa) (hl : h.length ≤ 1000000) (he : stepH 300 h x = h') :
    Calls Tryd.prog 12 #[.pointer (some ⟨b.p, 0, none⟩), .int .i64 x.1, .string x.2] V fun e w' => e = .returned (.int .i64 (wcode 300 x)) ∧ ∃ v', Two w2 w' a ⟨b.p, b.M, v', h', b.k⟩ h' := by
  have HB : DkAt V b.p b.M b.v 300 h b.k := by have := Hb; unfold Ds.At at this; rw [hbh] at this; exact this
  have ap' : a.Ap b.p b.M b.v := ⟨fun e => ap.1 e.symm, fun e => ap.2.1 e.symm, fun k hk e => ap.2.2 k e hk⟩
  exact (write_any HB x hl).mono fun e w' ⟨hee, ⟨v', hd, hm⟩, ho⟩ => ⟨hee, v', by
    have apm := Ds.moved (d := a) H ap' hm
    rw [he] at hd
    exact ⟨a.keep H Hb ho ap', hd, hah, rfl, ⟨fun e => apm.1 e.symm, fun e => apm.2.1 e.symm, fun k hk e => apm.2.2 k e hk⟩, oa, ⟨ob.1, ob.2.1, moved_over hm ob.2.2 hbl.size⟩, OnlyD.below hbl ho hbl.size ob.1 ob.2.1 ob.2.2⟩⟩
structure Rest (W V : World) (p M : Nat) (v : Value) (h : Hist) (k : Nat) (L : List Ds) : Prop where
  one : DkAt V p M v 300 h k
  all : ∀ d ∈ L, d.At V ∧ d.Ap p M v
  op : W.heap.size ≤ p ∧ W.heap.size ≤ M ∧ ∀ q, v.ownBlock = some q → W.heap.size ≤ q
  below : Below W.heap.size W V
theorem Rest.under {W V V' : World} {p M k : Nat} {v : Value} {h : Hist} {L : List Ds} (R : Rest W V p M v h k L) (hb : Below V.heap.size V V') : Rest W V' p M v h k L :=
  ⟨R.one.below hb (Nat.le_refl _), fun d hd => ⟨(R.all d hd).1.below hb (Nat.le_refl _), (R.all d hd).2⟩, R.op, below_step R.below hb⟩
theorem Rest.write {W V : World} {p M k : Nat} {v : Value} {h : Hist} {L : List Ds} (R : Rest W V p M v h k L) (x : Wa) (hl : h.length ≤ 1000000) :
    Calls Tryd.prog 12 #[.pointer (some ⟨p, 0, none⟩), .int .i64 x.1, .string x.2] V fun e w' => e = .returned (.int .i64 (wcode 300 x)) ∧ ∃ v', Rest W w' p M v' (stepH 300 h x) k L :=
  (write_any R.one x hl).mono fun e w' ⟨he, ⟨v', hd, hm⟩, ho⟩ => ⟨he, v', hd, fun d hd' => ⟨d.keep (R.all d hd').1 R.one ho (R.all d hd').2, Ds.moved (R.all d hd').1 (R.all d hd').2 hm⟩, ⟨R.op.1, R.op.2.1, moved_over hm R.op.2.2 R.below.size⟩, OnlyD.below R.below ho R.below.size R.op.1 R.op.2.1 R.op.2.2⟩
theorem dk_under {V : World} {p M k : Nat} {v : Value} {h : Hist} (H : DkAt V p M v 300 h k) : p < V.heap.size ∧ M < V.heap.size ∧ ∀ q, v.ownBlock = some q → q < V.heap.size := H.lt
set_option maxHeartbeats 8000000 in
set_option maxRecDepth 100000 in
theorem apartLaw (A : Option Addr) (N cap : Nat) (l : List Wa) (B : Option Addr) (K capB : Nat) (m : List Wa) (W : World) (hr : kA.C W A N l) (_ : N ≤ cap) (_ : N ≤ maxLen) (_ : ∀ x ∈ l, (Lit.int .i64 x.1).wf = true ∧ x.2.size ≤ maxLen) (hm : kA.C W B K m) (_ : K ≤ capB) (_ : K ≤ maxLen) (_ : ∀ x ∈ m, (Lit.int .i64 x.1).wf = true ∧ x.2.size ≤ maxLen) :
    Calls Tryd.prog 6 #[.slice A N cap, .slice B K capB] W fun e w' => e = .returned (.bool true) ∧ Below W.heap.size W w' := by
  have HM := Lib.hid hm
  have HWr := Lib.hid (fun V (hb : Below W.heap.size W V) => written_calls A N cap l 5 V (Kd.C_below hr hb))
  obtain ⟨h, hh⟩ : ∃ x, (wrt 300 5 l (min N 40)).1 = x := ⟨_, rfl⟩
  obtain ⟨kept, hk⟩ : ∃ x, (wrt 300 5 l (min N 40)).2 = x := ⟨_, rfl⟩
  have HLe : Hid (h.length ≤ 40 ∧ kept ≤ h.length) := Lib.hid (by have := wrt_len 300 5 l (min N 40); rw [hh, hk] at this; omega)
  obtain ⟨n, hn⟩ : ∃ x, h.length - kept = x := ⟨_, rfl⟩
  have Hn := Lib.hid hn
  rw [hh, hk, hn] at HWr
  have HWk := Lib.hid works20
  obtain ⟨r, hrr⟩ : ∃ r, min K 40 = r := ⟨_, rfl⟩
  have Hr := Lib.hid hrr
  clear hr hm hh hk hn hrr
  go_enter Tryd.func6, Tryd.ntmps6
  go_wp2_with fail
  refine (HWr.out _ (Below.refl _ _)).mono ?_; rintro e w1 ⟨pd, Md, vd, rfl, hd1, _, _, _, hb1⟩
  have HD1 := Lib.hid hd1
  have HB1 := Lib.hid hb1
  clear hd1 hb1
  go_wp2_with fail
  refine (HWr.out _ HB1.out).mono ?_; rintro e w2 ⟨pp, Mp, vp, rfl, hp2, hpp, hMp, hvp, hb2⟩
  have HD2 : Hid ((⟨pd, Md, vd, h, kept⟩ : Ds).At w2) := Lib.hid (HD1.out.below hb2 (Nat.le_refl _))
  have HDu := Lib.hid (dk_under HD1.out)
  have HP2 := Lib.hid hp2
  have HPo := Lib.hid (And.intro hpp (And.intro hMp hvp))
  have HPw : Hid (W.heap.size ≤ pp ∧ W.heap.size ≤ Mp ∧ ∀ q, vp.ownBlock = some q → W.heap.size ≤ q) := Lib.hid ⟨Nat.le_trans HB1.out.size hpp, Nat.le_trans HB1.out.size hMp, fun q hq => Nat.le_trans HB1.out.size (hvp q hq)⟩
  have HB2 := Lib.hid (below_step HB1.out hb2)
  have HCp := Lib.hid (copy_calls (HD1.out.below hb2 (Nat.le_refl _)) (by have := HLe.out; omega))
  clear hp2 hpp hMp hvp hb2 HWr HB1 HD1
  go_wp2_with fail
  refine HCp.out.mono ?_; rintro e w3 ⟨pa, Ma, va, rfl, ha3, hpa, hMa, hva, hb3⟩
  have HA3 := Lib.hid ha3
  have HAo := Lib.hid (And.intro hpa (And.intro hMa hva))
  have HB3 := Lib.hid hb3
  have HCt := Lib.hid (cut_calls (show DkAt w3 pd Md vd 300 h kept from DkAt.below HD2.out hb3 (Nat.le_refl _)) (by have := HLe.out; omega) n (by have := HLe.out; have := Hn.out; omega))
  rw [show kept + n = h.length by have := HLe.out; have := Hn.out; omega, List.take_length] at HCt
  clear ha3 hpa hMa hva hb3 HCp
  go_wp2_with fail
  refine HCt.out.mono ?_; rintro e w4 ⟨pb, Mb, rfl, hb4, hpb, hMb, hw4⟩
  have HT4 : Hid (Two w2 w4 ⟨pa, Ma, va, h, kept⟩ ⟨pb, Mb, .slice none 0 0, h, h.length⟩ h) := Lib.hid ⟨HA3.out.below hw4 (Nat.le_refl _), hb4, rfl, rfl, Ds.ap_under (B := w3.heap.size) ⟨hpb, hMb, fun k hk => by cases hk⟩ (dk_under HA3.out), HAo.out, ⟨Nat.le_trans HB3.out.size hpb, Nat.le_trans HB3.out.size hMb, fun k hk => by cases hk⟩, below_step HB3.out hw4⟩
  clear hb4 hpb hMb hw4 HCt HA3 HB3 HAo
  go_wp2_with fail
  go_loopw [12] (fun iv V => ∃ (i : Nat) (a' b' : Value), i ≤ r ∧ iv = .int .i64 (i : Int) ∧ Aside0 (Two w2 V ⟨pa, Ma, a', pour h m i, kept⟩ ⟨pb, Mb, b', pour h m i, h.length⟩ (pour h m i))) (fun iv _ => r - (ixOf iv).toNat)
  case atStart => exact ⟨0, va, .slice none 0 0, Nat.zero_le _, rfl, ⟨HT4.out⟩⟩
  case round =>
    obtain ⟨i, a', b', hi, rfl, ⟨hT⟩⟩ := hrel
    have HT := Lib.hid hT
    clear hT HT4
    by_cases hlt : i < r
    · have hiK : i < K ∧ i < 40 := by have := Hr.out; omega
      have hd := decide_eq_true (show (i : Int) < (K : Int) by omega)
      have hdn := decide_eq_true hiK.1
      have hd4 := decide_eq_true (show (i : Int) < 40 by omega)
      have hd4n := decide_eq_true hiK.2
      obtain ⟨mb, mo, rfl, q0, q1⟩ := la_at (Kd.C_below HM.out (HB2.out.trans (HT.out.below.mono HB2.out.size))) i hiK.1
      have HMat : Hid (∀ V, Below w2.heap.size w2 V → V.cell? ⟨mb, mo + i * 2, none⟩ = some (.int .i64 (m.getD i (0, E0)).1) ∧ V.cell? ⟨mb, mo + i * 2 + 1, none⟩ = some (.string (m.getD i (0, E0)).2)) := Lib.hid (fun V hb => by
        obtain ⟨_, _, hrr, r0, r1⟩ := la_at (Kd.C_below HM.out (HB2.out.trans (hb.mono HB2.out.size))) i hiK.1
        injection hrr with hrr
        injection hrr with hb' ho'
        subst hb'; subst ho'
        exact ⟨r0, r1⟩)
      have HWA := Lib.hid (HT.out.drew.writeA (m.getD i (0, E0)) (by have := pour_len h m i; have := HLe.out; omega))
      have HSt : Hid (stepH 300 (pour h m i) (m.getD i (0, E0)) = pour h m (i + 1)) := Lib.hid rfl
      have Hpl : Hid ((pour h m i).length ≤ 1000000) := Lib.hid (by have := pour_len h m i; have := HLe.out; omega)
      rw [HSt.out] at HWA
      obtain ⟨x, hx⟩ : ∃ x, m.getD i (0, E0) = x := ⟨_, rfl⟩
      rw [hx] at q0 q1 HWA HMat HSt
      have p1 : (0 ≤ (i : Int)) = True := eq_true (by omega)
      have p2 : ((i : Int) < (K : Int)) = True := eq_true (by omega)
      have Hlt := Lib.hid hlt
      have hnx := nx_small (i := i) (by omega)
      have Hnx := Lib.hid hnx
      clear hx hlt hi hiK hnx
      go_upto_region 12 with fail
      refine start_ (n := 12) (S := fun w' => w'.cell? ⟨mb, mo + i * 2, none⟩ = some (.int .i64 x.1) ∧ w'.cell? ⟨mb, mo + i * 2 + 1, none⟩ = some (.string x.2)) (ds := [11]) #[false, false, false, false, false, false, false, false, false, false, false, false] (by kernel_rfl) rfl rfl ⟨q0, q1⟩ (fun hHeld => ?_)
      refine pure_ (i := 0) (N := some 55) (v := ?_) (a' := ?_) #[true, false, false, false, false, false, false, false, false, false, false, false] rfl rfl (by kernel_rfl) (fun _ _ _ h => h) (Or.inl ⟨by rfl, ?_⟩) ?_ ?_
      rotate_left
      · intro w'
        go_simp
        with_reducible rfl
      rotate_left
      · simp only [Act.put, List.setIfInBounds_toArray, List.set_cons_zero, List.set_cons_succ, i64_w, i32_w]
        rfl
      refine pure_ (i := 1) (N := some 56) (v := ?_) (a' := ?_) #[true, true, false, false, false, false, false, false, false, false, false, false] rfl rfl (by kernel_rfl) (fun _ _ _ h => h) (Or.inl ⟨by rfl, ?_⟩) ?_ ?_
      rotate_left
      · intro w'
        go_simp
        with_reducible rfl
      rotate_left
      · simp only [Act.put, List.setIfInBounds_toArray, List.set_cons_zero, List.set_cons_succ, i64_w, i32_w]
        rfl
      refine pure_ (i := 2) (N := some 57) (v := ?_) (a' := ?_) #[true, true, true, false, false, false, false, false, false, false, false, false] rfl rfl (by kernel_rfl) (fun _ _ _ h => h) (Or.inl ⟨by rfl, ?_⟩) ?_ ?_
      rotate_left
      · intro w'
        go_simp
        with_reducible rfl
      rotate_left
      · simp only [Act.put, List.setIfInBounds_toArray, List.set_cons_zero, List.set_cons_succ, i64_w, i32_w]
        rfl
      refine pure_ (i := 3) (N := some 58) (v := ?_) (a' := ?_) #[true, true, true, true, false, false, false, false, false, false, false, false] rfl rfl (by kernel_rfl) (fun _ _ _ h => h) (Or.inl ⟨by rfl, ?_⟩) ?_ ?_
      rotate_left
      · intro w'
        go_simp
        with_reducible rfl
      rotate_left
      · simp only [Act.put, List.setIfInBounds_toArray, List.set_cons_zero, List.set_cons_succ, i64_w, i32_w]
        rfl
      refine pure_ (i := 4) (N := some 59) (v := ?_) (a' := ?_) #[true, true, true, true, true, false, false, false, false, false, false, false] rfl rfl (by kernel_rfl) (fun _ _ _ h => h) (Or.inl ⟨by rfl, ?_⟩) ?_ ?_
      rotate_left
      · intro w'
        go_simp
        with_reducible rfl
      rotate_left
      · simp only [Act.put, List.setIfInBounds_toArray, List.set_cons_zero, List.set_cons_succ, i64_w, i32_w]
        rfl
      refine pure_ (i := 6) (N := some 61) (v := ?_) (a' := ?_) #[true, true, true, true, true, false, true, false, false, false, false, false] rfl rfl (by kernel_rfl) (fun _ _ _ h => h) (Or.inl ⟨by rfl, ?_⟩) ?_ ?_
      rotate_left
      · intro w'
        go_simp
        with_reducible rfl
      rotate_left
      · simp only [Act.put, List.setIfInBounds_toArray, List.set_cons_zero, List.set_cons_succ, i64_w, i32_w]
        rfl
      refine pure_ (i := 7) (N := some 62) (v := ?_) (a' := ?_) #[true, true, true, true, true, false, true, true, false, false, false, false] rfl rfl (by kernel_rfl) (fun _ _ _ h => h) (Or.inl ⟨by rfl, ?_⟩) ?_ ?_
      rotate_left
      · intro w'
        go_simp
        with_reducible rfl
      rotate_left
      · simp only [Act.put, List.setIfInBounds_toArray, List.set_cons_zero, List.set_cons_succ, i64_w, i32_w]
        rfl
      refine pure_ (i := 8) (N := some 63) (v := ?_) (a' := ?_) #[true, true, true, true, true, false, true, true, true, false, false, false] rfl rfl (by kernel_rfl) (fun _ _ _ h => h) (Or.inl ⟨by rfl, ?_⟩) ?_ ?_
      rotate_left
      · intro w'
        go_simp
        with_reducible rfl
      rotate_left
      · simp only [Act.put, List.setIfInBounds_toArray, List.set_cons_zero, List.set_cons_succ, i64_w, i32_w]
        rfl
      refine pure_ (i := 9) (N := some 64) (v := ?_) (a' := ?_) #[true, true, true, true, true, false, true, true, true, true, false, false] rfl rfl (by kernel_rfl) (fun _ _ _ h => h) (Or.inl ⟨by rfl, ?_⟩) ?_ ?_
      rotate_left
      · intro w'
        go_simp
        with_reducible rfl
      rotate_left
      · simp only [Act.put, List.setIfInBounds_toArray, List.set_cons_zero, List.set_cons_succ, i64_w, i32_w]
        rfl
      refine take_ (i := 5) (N := some 60) (v := ?_) (a' := ?_) #[true, true, true, true, true, true, true, true, true, true, false, false] rfl rfl (by kernel_rfl) (fun _ _ _ h => h) (Or.inl ⟨by rfl, ?_⟩) hHeld ?_ ?_
      rotate_left
      · rintro w' ⟨s0, s1⟩
        go_simp
        with_reducible rfl
      rotate_left
      · simp only [Act.put, List.setIfInBounds_toArray, List.set_cons_zero, List.set_cons_succ, i64_w, i32_w]
        rfl
      refine take_ (i := 10) (N := some 65) (v := ?_) (a' := ?_) #[true, true, true, true, true, true, true, true, true, true, true, false] rfl rfl (by kernel_rfl) (fun _ _ _ h => h) (Or.inl ⟨by rfl, ?_⟩) hHeld ?_ ?_
      rotate_left
      · rintro w' ⟨s0, s1⟩
        go_simp
        with_reducible rfl
      rotate_left
      · simp only [Act.put, List.setIfInBounds_toArray, List.set_cons_zero, List.set_cons_succ, i64_w, i32_w]
        rfl
      refine last_ (i := 11) (N := some 66) #[true, true, true, true, true, true, true, true, true, true, true, true] rfl rfl (by kernel_rfl) (by decide) (fun K hK => ?_)
      refine goes_ Tryd.func12 (by kernel_rfl) rfl #[.pointer (some ⟨pa, 0, none⟩), .int .i64 x.1, .string x.2] (by rfl) rfl rfl (by simp only [List.map_toArray, List.map_cons, List.map_nil]; rfl) ?_
      with_reducible refine (HWA.out).mono ?_
      rintro e w7 ⟨rfl, v7, ha7, hb7, hap7, hov7, hbl7⟩
      refine ⟨_, rfl, ?_⟩
      refine hK.out _ _ ?_
      clear hK K
      refine norm_ (a' := ?_) ?_ ?_
      rotate_left
      · show Act.put _ (some 66) _ = _
        simp only [Act.put, List.setIfInBounds_toArray, List.set_cons_zero, List.set_cons_succ, i64_w, i32_w]
        rfl
      refine done_ (by kernel_rfl) ?_
      obtain ⟨r0, r1⟩ := HMat.out _ hbl7
      have HWB := Lib.hid (Two.writeB (w2 := w2) (V := w7.drew) (a := ⟨pa, Ma, v7, pour h m (i + 1), kept⟩) (b := ⟨pb, Mb, b', pour h m i, h.length⟩) (h := pour h m i) (h' := pour h m (i + 1)) (Ds.below ha7 (below_drew (Below.refl _ _)) (Nat.le_refl _)) rfl (Ds.below hb7 (below_drew (Below.refl _ _)) (Nat.le_refl _)) rfl hap7 ⟨HT.out.oa.1, HT.out.oa.2.1, hov7⟩ HT.out.ob (below_drew hbl7) x Hpl.out HSt.out)
      clear hHeld q0 q1 ha7 hb7 hap7 hov7 hbl7 HWA
      go_upto_region 13 with fail
      refine start_ (n := 12) (S := fun w' => w'.cell? ⟨mb, mo + i * 2, none⟩ = some (.int .i64 x.1) ∧ w'.cell? ⟨mb, mo + i * 2 + 1, none⟩ = some (.string x.2)) (ds := [11]) #[false, false, false, false, false, false, false, false, false, false, false, false] (by kernel_rfl) rfl rfl ⟨r0, r1⟩ (fun hHeld => ?_)
      refine pure_ (i := 0) (N := some 67) (v := ?_) (a' := ?_) #[true, false, false, false, false, false, false, false, false, false, false, false] rfl rfl (by kernel_rfl) (fun _ _ _ h => h) (Or.inl ⟨by rfl, ?_⟩) ?_ ?_
      rotate_left
      · intro w'
        go_simp
        with_reducible rfl
      rotate_left
      · simp only [Act.put, List.setIfInBounds_toArray, List.set_cons_zero, List.set_cons_succ, i64_w, i32_w]
        rfl
      refine pure_ (i := 1) (N := some 68) (v := ?_) (a' := ?_) #[true, true, false, false, false, false, false, false, false, false, false, false] rfl rfl (by kernel_rfl) (fun _ _ _ h => h) (Or.inl ⟨by rfl, ?_⟩) ?_ ?_
      rotate_left
      · intro w'
        go_simp
        with_reducible rfl
      rotate_left
      · simp only [Act.put, List.setIfInBounds_toArray, List.set_cons_zero, List.set_cons_succ, i64_w, i32_w]
        rfl
      refine pure_ (i := 2) (N := some 69) (v := ?_) (a' := ?_) #[true, true, true, false, false, false, false, false, false, false, false, false] rfl rfl (by kernel_rfl) (fun _ _ _ h => h) (Or.inl ⟨by rfl, ?_⟩) ?_ ?_
      rotate_left
      · intro w'
        go_simp
        with_reducible rfl
      rotate_left
      · simp only [Act.put, List.setIfInBounds_toArray, List.set_cons_zero, List.set_cons_succ, i64_w, i32_w]
        rfl
      refine pure_ (i := 3) (N := some 70) (v := ?_) (a' := ?_) #[true, true, true, true, false, false, false, false, false, false, false, false] rfl rfl (by kernel_rfl) (fun _ _ _ h => h) (Or.inl ⟨by rfl, ?_⟩) ?_ ?_
      rotate_left
      · intro w'
        go_simp
        with_reducible rfl
      rotate_left
      · simp only [Act.put, List.setIfInBounds_toArray, List.set_cons_zero, List.set_cons_succ, i64_w, i32_w]
        rfl
      refine pure_ (i := 4) (N := some 71) (v := ?_) (a' := ?_) #[true, true, true, true, true, false, false, false, false, false, false, false] rfl rfl (by kernel_rfl) (fun _ _ _ h => h) (Or.inl ⟨by rfl, ?_⟩) ?_ ?_
      rotate_left
      · intro w'
        go_simp
        with_reducible rfl
      rotate_left
      · simp only [Act.put, List.setIfInBounds_toArray, List.set_cons_zero, List.set_cons_succ, i64_w, i32_w]
        rfl
      refine pure_ (i := 6) (N := some 73) (v := ?_) (a' := ?_) #[true, true, true, true, true, false, true, false, false, false, false, false] rfl rfl (by kernel_rfl) (fun _ _ _ h => h) (Or.inl ⟨by rfl, ?_⟩) ?_ ?_
      rotate_left
      · intro w'
        go_simp
        with_reducible rfl
      rotate_left
      · simp only [Act.put, List.setIfInBounds_toArray, List.set_cons_zero, List.set_cons_succ, i64_w, i32_w]
        rfl
      refine pure_ (i := 7) (N := some 74) (v := ?_) (a' := ?_) #[true, true, true, true, true, false, true, true, false, false, false, false] rfl rfl (by kernel_rfl) (fun _ _ _ h => h) (Or.inl ⟨by rfl, ?_⟩) ?_ ?_
      rotate_left
      · intro w'
        go_simp
        with_reducible rfl
      rotate_left
      · simp only [Act.put, List.setIfInBounds_toArray, List.set_cons_zero, List.set_cons_succ, i64_w, i32_w]
        rfl
      refine pure_ (i := 8) (N := some 75) (v := ?_) (a' := ?_) #[true, true, true, true, true, false, true, true, true, false, false, false] rfl rfl (by kernel_rfl) (fun _ _ _ h => h) (Or.inl ⟨by rfl, ?_⟩) ?_ ?_
      rotate_left
      · intro w'
        go_simp
        with_reducible rfl
      rotate_left
      · simp only [Act.put, List.setIfInBounds_toArray, List.set_cons_zero, List.set_cons_succ, i64_w, i32_w]
        rfl
      refine pure_ (i := 9) (N := some 76) (v := ?_) (a' := ?_) #[true, true, true, true, true, false, true, true, true, true, false, false] rfl rfl (by kernel_rfl) (fun _ _ _ h => h) (Or.inl ⟨by rfl, ?_⟩) ?_ ?_
      rotate_left
      · intro w'
        go_simp
        with_reducible rfl
      rotate_left
      · simp only [Act.put, List.setIfInBounds_toArray, List.set_cons_zero, List.set_cons_succ, i64_w, i32_w]
        rfl
      refine take_ (i := 5) (N := some 72) (v := ?_) (a' := ?_) #[true, true, true, true, true, true, true, true, true, true, false, false] rfl rfl (by kernel_rfl) (fun _ _ _ h => h) (Or.inl ⟨by rfl, ?_⟩) hHeld ?_ ?_
      rotate_left
      · rintro w' ⟨s0, s1⟩
        go_simp
        with_reducible rfl
      rotate_left
      · simp only [Act.put, List.setIfInBounds_toArray, List.set_cons_zero, List.set_cons_succ, i64_w, i32_w]
        rfl
      refine take_ (i := 10) (N := some 77) (v := ?_) (a' := ?_) #[true, true, true, true, true, true, true, true, true, true, true, false] rfl rfl (by kernel_rfl) (fun _ _ _ h => h) (Or.inl ⟨by rfl, ?_⟩) hHeld ?_ ?_
      rotate_left
      · rintro w' ⟨s0, s1⟩
        go_simp
        with_reducible rfl
      rotate_left
      · simp only [Act.put, List.setIfInBounds_toArray, List.set_cons_zero, List.set_cons_succ, i64_w, i32_w]
        rfl
      refine last_ (i := 11) (N := some 78) #[true, true, true, true, true, true, true, true, true, true, true, true] rfl rfl (by kernel_rfl) (by decide) (fun K hK => ?_)
      refine goes_ Tryd.func12 (by kernel_rfl) rfl #[.pointer (some ⟨pb, 0, none⟩), .int .i64 x.1, .string x.2] (by rfl) rfl rfl (by simp only [List.map_toArray, List.map_cons, List.map_nil]; rfl) ?_
      with_reducible refine (HWB.out).mono ?_
      rintro e w8 ⟨rfl, v8, hT8⟩
      refine ⟨_, rfl, ?_⟩
      refine hK.out _ _ ?_
      clear hK K
      refine norm_ (a' := ?_) ?_ ?_
      rotate_left
      · show Act.put _ (some 78) _ = _
        simp only [Act.put, List.setIfInBounds_toArray, List.set_cons_zero, List.set_cons_succ, i64_w, i32_w]
        rfl
      refine done_ (by kernel_rfl) ?_
      have HT8 := Lib.hid hT8
      have hnx := Hnx.out
      clear hHeld hT8 r0 r1 p1 p2 HWB
      go_wp2
      go_roundw
      case rel => exact ⟨i + 1, v7, v8, Hlt.out, by first | rfl | (rw [hnx]; rfl), ⟨HT8.out⟩⟩
      case measure => have h1 := Hlt.out; first | (rw [hnx]; simp [ixOf, Go.RowKit.intOf]; omega) | (simp [ixOf, Go.RowKit.intOf]; omega)
    · obtain rfl : i = r := by omega
      have hE : ¬ (i < K ∧ i < 40) := by have := Hr.out; omega
      have HDr := Lib.hid (Ds.below HD2.out HT.out.below (Nat.le_refl _))
      have HPr := Lib.hid (HP2.out.below HT.out.below (Nat.le_refl _))
      have HAl := Lib.hid (alike_calls HDr.out HPr.out rfl)
      clear hlt hi
      by_cases h1 : i < K
      · have hd := decide_eq_true (show (i : Int) < (K : Int) by omega)
        have hdn := decide_eq_true h1
        have hd4 := decide_eq_false (show ¬ (i : Int) < 40 by omega)
        have hd4n := decide_eq_false (show ¬ i < 40 by omega)
        clear hE h1
        go_wp2_with fail
        refine HAl.out.mono ?_; rintro e w9 ⟨rfl, hb9⟩
        have HB9 := Lib.hid hb9
        have HWs := Lib.hid (writes_calls (show DkAt w9 pd Md vd 300 h kept from DkAt.below HDr.out hb9 (Nat.le_refl _)))
        rw [show (h.length - kept : Nat) = n from Hn.out] at HWs
        clear hb9
        go_wp2_with fail
        refine HWs.out.mono ?_; rintro e w10 ⟨rfl, hb10⟩
        have HB10 := Lib.hid (below_step HB9.out hb10)
        have HCc := Lib.hid (copy_calls (HPr.out.below HB10.out (Nat.le_refl _)) (by have := HLe.out; omega))
        clear hb10 HWs HB9
        go_wp2_with fail
        refine HCc.out.mono ?_; rintro e w11 ⟨pc, Mc, vc, rfl, hc11, hpc, hMc, hvc, hb11⟩
        have HR11 : Hid (Rest W w11 pp Mp vp h kept [⟨pa, Ma, a', pour h m i, kept⟩, ⟨pb, Mb, b', pour h m i, h.length⟩, ⟨pc, Mc, vc, h, kept⟩, ⟨pd, Md, vd, h, kept⟩]) := Lib.hid (by
          have hw := below_step HB10.out hb11
          have hpu := dk_under HP2.out
          have hwr := HT.out.below
          have hpu2 : pp < w10.heap.size ∧ Mp < w10.heap.size ∧ ∀ q, vp.ownBlock = some q → q < w10.heap.size := dk_under (HPr.out.below HB10.out (Nat.le_refl _))
          refine ⟨HPr.out.below hw (Nat.le_refl _), fun d hd => ?_, HPw.out, (HB2.out.trans (hwr.mono HB2.out.size)).trans (hw.mono (HB2.out.trans (hwr.mono HB2.out.size)).size)⟩
          simp only [List.mem_cons, List.mem_nil_iff, or_false] at hd
          rcases hd with rfl | rfl | rfl | rfl
          · exact ⟨Ds.below HT.out.qa hw (Nat.le_refl _), Ds.ap_under (B := w2.heap.size) HT.out.oa hpu⟩
          · exact ⟨Ds.below HT.out.qb hw (Nat.le_refl _), Ds.ap_under (B := w2.heap.size) HT.out.ob hpu⟩
          · exact ⟨hc11, Ds.ap_under (B := w10.heap.size) ⟨hpc, hMc, hvc⟩ hpu2⟩
          · exact ⟨Ds.below HDr.out hw (Nat.le_refl _), Ds.ap_over (B := w1.heap.size) HDu.out HPo.out⟩)
        clear hc11 hpc hMc hvc hb11 HCc HT HB10 HAl HDr HPr hd hdn
        try clear hd4 hd4n
        go_wp2_with fail
        go_loopw [14] (fun iv V => ∃ (j : Nat) (v' : Value), j ≤ i ∧ iv = .int .i64 (j : Int) ∧ Aside0 (Rest W V pp Mp v' (pour h m j) kept [⟨pa, Ma, a', pour h m i, kept⟩, ⟨pb, Mb, b', pour h m i, h.length⟩, ⟨pc, Mc, vc, h, kept⟩, ⟨pd, Md, vd, h, kept⟩])) (fun iv _ => i - (ixOf iv).toNat)
        case atStart => exact ⟨0, vp, Nat.zero_le _, rfl, ⟨HR11.out⟩⟩
        case round =>
          obtain ⟨j, v', hj, rfl, ⟨hR⟩⟩ := hrel
          have HRj := Lib.hid hR
          clear hR HR11
          by_cases hlt : j < i
          · have hjK : j < K ∧ j < 40 := by have := Hr.out; omega
            have hd := decide_eq_true (show (j : Int) < (K : Int) by omega)
            have hdn := decide_eq_true hjK.1
            have hd4 := decide_eq_true (show (j : Int) < 40 by omega)
            have hd4n := decide_eq_true hjK.2
            obtain ⟨mb, mo, rfl, q0, q1⟩ := la_at (Kd.C_below HM.out HRj.out.below) j hjK.1
            have HWA := Lib.hid ((HRj.out.under (below_drew (Below.refl _ _))).write (m.getD j (0, E0)) (by have := pour_len h m j; have := HLe.out; omega))
            have HSt : Hid (stepH 300 (pour h m j) (m.getD j (0, E0)) = pour h m (j + 1)) := Lib.hid rfl
            rw [HSt.out] at HWA
            obtain ⟨x, hx⟩ : ∃ x, m.getD j (0, E0) = x := ⟨_, rfl⟩
            rw [hx] at q0 q1 HWA
            have p1 : (0 ≤ (j : Int)) = True := eq_true (by omega)
            have p2 : ((j : Int) < (K : Int)) = True := eq_true (by omega)
            have Hlt := Lib.hid hlt
            have hnx := nx_small (i := j) (by omega)
            have Hnx := Lib.hid hnx
            clear hx hlt hj hjK hnx
            go_upto_region 20 with fail
            refine start_ (n := 12) (S := fun w' => w'.cell? ⟨mb, mo + j * 2, none⟩ = some (.int .i64 x.1) ∧ w'.cell? ⟨mb, mo + j * 2 + 1, none⟩ = some (.string x.2)) (ds := [11]) #[false, false, false, false, false, false, false, false, false, false, false, false] (by kernel_rfl) rfl rfl ⟨q0, q1⟩ (fun hHeld => ?_)
            refine pure_ (i := 0) (N := some 101) (v := ?_) (a' := ?_) #[true, false, false, false, false, false, false, false, false, false, false, false] rfl rfl (by kernel_rfl) (fun _ _ _ h => h) (Or.inl ⟨by rfl, ?_⟩) ?_ ?_
            rotate_left
            · intro w'
              go_simp
              with_reducible rfl
            rotate_left
            · simp only [Act.put, List.setIfInBounds_toArray, List.set_cons_zero, List.set_cons_succ, i64_w, i32_w]
              rfl
            refine pure_ (i := 1) (N := some 102) (v := ?_) (a' := ?_) #[true, true, false, false, false, false, false, false, false, false, false, false] rfl rfl (by kernel_rfl) (fun _ _ _ h => h) (Or.inl ⟨by rfl, ?_⟩) ?_ ?_
            rotate_left
            · intro w'
              go_simp
              with_reducible rfl
            rotate_left
            · simp only [Act.put, List.setIfInBounds_toArray, List.set_cons_zero, List.set_cons_succ, i64_w, i32_w]
              rfl
            refine pure_ (i := 2) (N := some 103) (v := ?_) (a' := ?_) #[true, true, true, false, false, false, false, false, false, false, false, false] rfl rfl (by kernel_rfl) (fun _ _ _ h => h) (Or.inl ⟨by rfl, ?_⟩) ?_ ?_
            rotate_left
            · intro w'
              go_simp
              with_reducible rfl
            rotate_left
            · simp only [Act.put, List.setIfInBounds_toArray, List.set_cons_zero, List.set_cons_succ, i64_w, i32_w]
              rfl
            refine pure_ (i := 3) (N := some 104) (v := ?_) (a' := ?_) #[true, true, true, true, false, false, false, false, false, false, false, false] rfl rfl (by kernel_rfl) (fun _ _ _ h => h) (Or.inl ⟨by rfl, ?_⟩) ?_ ?_
            rotate_left
            · intro w'
              go_simp
              with_reducible rfl
            rotate_left
            · simp only [Act.put, List.setIfInBounds_toArray, List.set_cons_zero, List.set_cons_succ, i64_w, i32_w]
              rfl
            refine pure_ (i := 4) (N := some 105) (v := ?_) (a' := ?_) #[true, true, true, true, true, false, false, false, false, false, false, false] rfl rfl (by kernel_rfl) (fun _ _ _ h => h) (Or.inl ⟨by rfl, ?_⟩) ?_ ?_
            rotate_left
            · intro w'
              go_simp
              with_reducible rfl
            rotate_left
            · simp only [Act.put, List.setIfInBounds_toArray, List.set_cons_zero, List.set_cons_succ, i64_w, i32_w]
              rfl
            refine pure_ (i := 6) (N := some 107) (v := ?_) (a' := ?_) #[true, true, true, true, true, false, true, false, false, false, false, false] rfl rfl (by kernel_rfl) (fun _ _ _ h => h) (Or.inl ⟨by rfl, ?_⟩) ?_ ?_
            rotate_left
            · intro w'
              go_simp
              with_reducible rfl
            rotate_left
            · simp only [Act.put, List.setIfInBounds_toArray, List.set_cons_zero, List.set_cons_succ, i64_w, i32_w]
              rfl
            refine pure_ (i := 7) (N := some 108) (v := ?_) (a' := ?_) #[true, true, true, true, true, false, true, true, false, false, false, false] rfl rfl (by kernel_rfl) (fun _ _ _ h => h) (Or.inl ⟨by rfl, ?_⟩) ?_ ?_
            rotate_left
            · intro w'
              go_simp
              with_reducible rfl
            rotate_left
            · simp only [Act.put, List.setIfInBounds_toArray, List.set_cons_zero, List.set_cons_succ, i64_w, i32_w]
              rfl
            refine pure_ (i := 8) (N := some 109) (v := ?_) (a' := ?_) #[true, true, true, true, true, false, true, true, true, false, false, false] rfl rfl (by kernel_rfl) (fun _ _ _ h => h) (Or.inl ⟨by rfl, ?_⟩) ?_ ?_
            rotate_left
            · intro w'
              go_simp
              with_reducible rfl
            rotate_left
            · simp only [Act.put, List.setIfInBounds_toArray, List.set_cons_zero, List.set_cons_succ, i64_w, i32_w]
              rfl
            refine pure_ (i := 9) (N := some 110) (v := ?_) (a' := ?_) #[true, true, true, true, true, false, true, true, true, true, false, false] rfl rfl (by kernel_rfl) (fun _ _ _ h => h) (Or.inl ⟨by rfl, ?_⟩) ?_ ?_
            rotate_left
            · intro w'
              go_simp
              with_reducible rfl
            rotate_left
            · simp only [Act.put, List.setIfInBounds_toArray, List.set_cons_zero, List.set_cons_succ, i64_w, i32_w]
              rfl
            refine take_ (i := 5) (N := some 106) (v := ?_) (a' := ?_) #[true, true, true, true, true, true, true, true, true, true, false, false] rfl rfl (by kernel_rfl) (fun _ _ _ h => h) (Or.inl ⟨by rfl, ?_⟩) hHeld ?_ ?_
            rotate_left
            · rintro w' ⟨s0, s1⟩
              go_simp
              with_reducible rfl
            rotate_left
            · simp only [Act.put, List.setIfInBounds_toArray, List.set_cons_zero, List.set_cons_succ, i64_w, i32_w]
              rfl
            refine take_ (i := 10) (N := some 111) (v := ?_) (a' := ?_) #[true, true, true, true, true, true, true, true, true, true, true, false] rfl rfl (by kernel_rfl) (fun _ _ _ h => h) (Or.inl ⟨by rfl, ?_⟩) hHeld ?_ ?_
            rotate_left
            · rintro w' ⟨s0, s1⟩
              go_simp
              with_reducible rfl
            rotate_left
            · simp only [Act.put, List.setIfInBounds_toArray, List.set_cons_zero, List.set_cons_succ, i64_w, i32_w]
              rfl
            refine last_ (i := 11) (N := some 112) #[true, true, true, true, true, true, true, true, true, true, true, true] rfl rfl (by kernel_rfl) (by decide) (fun K hK => ?_)
            refine goes_ Tryd.func12 (by kernel_rfl) rfl #[.pointer (some ⟨pp, 0, none⟩), .int .i64 x.1, .string x.2] (by rfl) rfl rfl (by simp only [List.map_toArray, List.map_cons, List.map_nil]; rfl) ?_
            with_reducible refine (HWA.out).mono ?_
            rintro e w9 ⟨rfl, v9, hR9⟩
            refine ⟨_, rfl, ?_⟩
            refine hK.out _ _ ?_
            clear hK K
            refine norm_ (a' := ?_) ?_ ?_
            rotate_left
            · show Act.put _ (some 112) _ = _
              simp only [Act.put, List.setIfInBounds_toArray, List.set_cons_zero, List.set_cons_succ, i64_w, i32_w]
              rfl
            refine done_ (by kernel_rfl) ?_
            have HR9 := Lib.hid hR9
            have hnx := Hnx.out
            clear hHeld hR9 q0 q1 p1 p2 HWA
            go_wp2
            go_roundw
            case rel => exact ⟨j + 1, v9, Hlt.out, by first | rfl | (rw [hnx]; rfl), ⟨HR9.out⟩⟩
            case measure => have h1 := Hlt.out; first | (rw [hnx]; simp [ixOf, Go.RowKit.intOf]; omega) | (simp [ixOf, Go.RowKit.intOf]; omega)
          · obtain rfl : j = i := by omega
            have hE : ¬ (j < K ∧ j < 40) := by have := Hr.out; omega
            have HAl1 := Lib.hid (fun V (hb : Below wr.heap.size wr V) => alike_calls ((HRj.out.under hb).all ⟨pc, Mc, vc, h, kept⟩ (by simp)).1 ((HRj.out.under hb).all ⟨pd, Md, vd, h, kept⟩ (by simp)).1 rfl)
            have HAl2 := Lib.hid (fun V (hb : Below wr.heap.size wr V) => alike_calls ((HRj.out.under hb).all ⟨pa, Ma, a', pour h m j, kept⟩ (by simp)).1 (HRj.out.under hb).one rfl)
            have HAl3 := Lib.hid (fun V (hb : Below wr.heap.size wr V) => alike_calls ((HRj.out.under hb).all ⟨pb, Mb, b', pour h m j, h.length⟩ (by simp)).1 (HRj.out.under hb).one rfl)
            clear hlt hj
            by_cases h1 : j < K
            · have hd := decide_eq_true (show (j : Int) < (K : Int) by omega)
              have hdn := decide_eq_true h1
              have hd4 := decide_eq_false (show ¬ (j : Int) < 40 by omega)
              have hd4n := decide_eq_false (show ¬ j < 40 by omega)
              clear hE h1
              go_wp2_with fail
              refine (HAl1.out _ (Below.refl _ _)).mono ?_; rintro e z1 ⟨rfl, hz1⟩
              have HZ1 := Lib.hid hz1
              clear hz1
              go_wp2_with fail
              refine (HAl2.out _ HZ1.out).mono ?_; rintro e z2 ⟨rfl, hz2⟩
              have HZ2 := Lib.hid (below_step HZ1.out hz2)
              clear hz2
              go_wp2_with fail
              refine (HAl3.out _ HZ2.out).mono ?_; rintro e z3 ⟨rfl, hz3⟩
              have HZ3 := Lib.hid (below_step HZ2.out hz3)
              clear hz3
              go_wp2_with fail
              refine (HWk.out _).mono ?_; rintro e z4 ⟨rfl, hz4⟩
              have HZ4 := Lib.hid (below_step HZ3.out hz4)
              clear hz4
              go_wp2
              go_ret
              exact ⟨rfl, below_step HRj.out.below HZ4.out⟩
            · have hd := decide_eq_false (show ¬ (j : Int) < (K : Int) by omega)
              have hdn := decide_eq_false h1
              clear hE h1
              go_wp2_with fail
              refine (HAl1.out _ (Below.refl _ _)).mono ?_; rintro e z1 ⟨rfl, hz1⟩
              have HZ1 := Lib.hid hz1
              clear hz1
              go_wp2_with fail
              refine (HAl2.out _ HZ1.out).mono ?_; rintro e z2 ⟨rfl, hz2⟩
              have HZ2 := Lib.hid (below_step HZ1.out hz2)
              clear hz2
              go_wp2_with fail
              refine (HAl3.out _ HZ2.out).mono ?_; rintro e z3 ⟨rfl, hz3⟩
              have HZ3 := Lib.hid (below_step HZ2.out hz3)
              clear hz3
              go_wp2_with fail
              refine (HWk.out _).mono ?_; rintro e z4 ⟨rfl, hz4⟩
              have HZ4 := Lib.hid (below_step HZ3.out hz4)
              clear hz4
              go_wp2
              go_ret
              exact ⟨rfl, below_step HRj.out.below HZ4.out⟩
      · have hd := decide_eq_false (show ¬ (i : Int) < (K : Int) by omega)
        have hdn := decide_eq_false h1
        clear hE h1
        go_wp2_with fail
        refine HAl.out.mono ?_; rintro e w9 ⟨rfl, hb9⟩
        have HB9 := Lib.hid hb9
        have HWs := Lib.hid (writes_calls (show DkAt w9 pd Md vd 300 h kept from DkAt.below HDr.out hb9 (Nat.le_refl _)))
        rw [show (h.length - kept : Nat) = n from Hn.out] at HWs
        clear hb9
        go_wp2_with fail
        refine HWs.out.mono ?_; rintro e w10 ⟨rfl, hb10⟩
        have HB10 := Lib.hid (below_step HB9.out hb10)
        have HCc := Lib.hid (copy_calls (HPr.out.below HB10.out (Nat.le_refl _)) (by have := HLe.out; omega))
        clear hb10 HWs HB9
        go_wp2_with fail
        refine HCc.out.mono ?_; rintro e w11 ⟨pc, Mc, vc, rfl, hc11, hpc, hMc, hvc, hb11⟩
        have HR11 : Hid (Rest W w11 pp Mp vp h kept [⟨pa, Ma, a', pour h m i, kept⟩, ⟨pb, Mb, b', pour h m i, h.length⟩, ⟨pc, Mc, vc, h, kept⟩, ⟨pd, Md, vd, h, kept⟩]) := Lib.hid (by
          have hw := below_step HB10.out hb11
          have hpu := dk_under HP2.out
          have hwr := HT.out.below
          have hpu2 : pp < w10.heap.size ∧ Mp < w10.heap.size ∧ ∀ q, vp.ownBlock = some q → q < w10.heap.size := dk_under (HPr.out.below HB10.out (Nat.le_refl _))
          refine ⟨HPr.out.below hw (Nat.le_refl _), fun d hd => ?_, HPw.out, (HB2.out.trans (hwr.mono HB2.out.size)).trans (hw.mono (HB2.out.trans (hwr.mono HB2.out.size)).size)⟩
          simp only [List.mem_cons, List.mem_nil_iff, or_false] at hd
          rcases hd with rfl | rfl | rfl | rfl
          · exact ⟨Ds.below HT.out.qa hw (Nat.le_refl _), Ds.ap_under (B := w2.heap.size) HT.out.oa hpu⟩
          · exact ⟨Ds.below HT.out.qb hw (Nat.le_refl _), Ds.ap_under (B := w2.heap.size) HT.out.ob hpu⟩
          · exact ⟨hc11, Ds.ap_under (B := w10.heap.size) ⟨hpc, hMc, hvc⟩ hpu2⟩
          · exact ⟨Ds.below HDr.out hw (Nat.le_refl _), Ds.ap_over (B := w1.heap.size) HDu.out HPo.out⟩)
        clear hc11 hpc hMc hvc hb11 HCc HT HB10 HAl HDr HPr hd hdn
        try clear hd4 hd4n
        go_wp2_with fail
        go_loopw [14] (fun iv V => ∃ (j : Nat) (v' : Value), j ≤ i ∧ iv = .int .i64 (j : Int) ∧ Aside0 (Rest W V pp Mp v' (pour h m j) kept [⟨pa, Ma, a', pour h m i, kept⟩, ⟨pb, Mb, b', pour h m i, h.length⟩, ⟨pc, Mc, vc, h, kept⟩, ⟨pd, Md, vd, h, kept⟩])) (fun iv _ => i - (ixOf iv).toNat)
        case atStart => exact ⟨0, vp, Nat.zero_le _, rfl, ⟨HR11.out⟩⟩
        case round =>
          obtain ⟨j, v', hj, rfl, ⟨hR⟩⟩ := hrel
          have HRj := Lib.hid hR
          clear hR HR11
          by_cases hlt : j < i
          · have hjK : j < K ∧ j < 40 := by have := Hr.out; omega
            have hd := decide_eq_true (show (j : Int) < (K : Int) by omega)
            have hdn := decide_eq_true hjK.1
            have hd4 := decide_eq_true (show (j : Int) < 40 by omega)
            have hd4n := decide_eq_true hjK.2
            obtain ⟨mb, mo, rfl, q0, q1⟩ := la_at (Kd.C_below HM.out HRj.out.below) j hjK.1
            have HWA := Lib.hid ((HRj.out.under (below_drew (Below.refl _ _))).write (m.getD j (0, E0)) (by have := pour_len h m j; have := HLe.out; omega))
            have HSt : Hid (stepH 300 (pour h m j) (m.getD j (0, E0)) = pour h m (j + 1)) := Lib.hid rfl
            rw [HSt.out] at HWA
            obtain ⟨x, hx⟩ : ∃ x, m.getD j (0, E0) = x := ⟨_, rfl⟩
            rw [hx] at q0 q1 HWA
            have p1 : (0 ≤ (j : Int)) = True := eq_true (by omega)
            have p2 : ((j : Int) < (K : Int)) = True := eq_true (by omega)
            have Hlt := Lib.hid hlt
            have hnx := nx_small (i := j) (by omega)
            have Hnx := Lib.hid hnx
            clear hx hlt hj hjK hnx
            go_upto_region 20 with fail
            refine start_ (n := 12) (S := fun w' => w'.cell? ⟨mb, mo + j * 2, none⟩ = some (.int .i64 x.1) ∧ w'.cell? ⟨mb, mo + j * 2 + 1, none⟩ = some (.string x.2)) (ds := [11]) #[false, false, false, false, false, false, false, false, false, false, false, false] (by kernel_rfl) rfl rfl ⟨q0, q1⟩ (fun hHeld => ?_)
            refine pure_ (i := 0) (N := some 101) (v := ?_) (a' := ?_) #[true, false, false, false, false, false, false, false, false, false, false, false] rfl rfl (by kernel_rfl) (fun _ _ _ h => h) (Or.inl ⟨by rfl, ?_⟩) ?_ ?_
            rotate_left
            · intro w'
              go_simp
              with_reducible rfl
            rotate_left
            · simp only [Act.put, List.setIfInBounds_toArray, List.set_cons_zero, List.set_cons_succ, i64_w, i32_w]
              rfl
            refine pure_ (i := 1) (N := some 102) (v := ?_) (a' := ?_) #[true, true, false, false, false, false, false, false, false, false, false, false] rfl rfl (by kernel_rfl) (fun _ _ _ h => h) (Or.inl ⟨by rfl, ?_⟩) ?_ ?_
            rotate_left
            · intro w'
              go_simp
              with_reducible rfl
            rotate_left
            · simp only [Act.put, List.setIfInBounds_toArray, List.set_cons_zero, List.set_cons_succ, i64_w, i32_w]
              rfl
            refine pure_ (i := 2) (N := some 103) (v := ?_) (a' := ?_) #[true, true, true, false, false, false, false, false, false, false, false, false] rfl rfl (by kernel_rfl) (fun _ _ _ h => h) (Or.inl ⟨by rfl, ?_⟩) ?_ ?_
            rotate_left
            · intro w'
              go_simp
              with_reducible rfl
            rotate_left
            · simp only [Act.put, List.setIfInBounds_toArray, List.set_cons_zero, List.set_cons_succ, i64_w, i32_w]
              rfl
            refine pure_ (i := 3) (N := some 104) (v := ?_) (a' := ?_) #[true, true, true, true, false, false, false, false, false, false, false, false] rfl rfl (by kernel_rfl) (fun _ _ _ h => h) (Or.inl ⟨by rfl, ?_⟩) ?_ ?_
            rotate_left
            · intro w'
              go_simp
              with_reducible rfl
            rotate_left
            · simp only [Act.put, List.setIfInBounds_toArray, List.set_cons_zero, List.set_cons_succ, i64_w, i32_w]
              rfl
            refine pure_ (i := 4) (N := some 105) (v := ?_) (a' := ?_) #[true, true, true, true, true, false, false, false, false, false, false, false] rfl rfl (by kernel_rfl) (fun _ _ _ h => h) (Or.inl ⟨by rfl, ?_⟩) ?_ ?_
            rotate_left
            · intro w'
              go_simp
              with_reducible rfl
            rotate_left
            · simp only [Act.put, List.setIfInBounds_toArray, List.set_cons_zero, List.set_cons_succ, i64_w, i32_w]
              rfl
            refine pure_ (i := 6) (N := some 107) (v := ?_) (a' := ?_) #[true, true, true, true, true, false, true, false, false, false, false, false] rfl rfl (by kernel_rfl) (fun _ _ _ h => h) (Or.inl ⟨by rfl, ?_⟩) ?_ ?_
            rotate_left
            · intro w'
              go_simp
              with_reducible rfl
            rotate_left
            · simp only [Act.put, List.setIfInBounds_toArray, List.set_cons_zero, List.set_cons_succ, i64_w, i32_w]
              rfl
            refine pure_ (i := 7) (N := some 108) (v := ?_) (a' := ?_) #[true, true, true, true, true, false, true, true, false, false, false, false] rfl rfl (by kernel_rfl) (fun _ _ _ h => h) (Or.inl ⟨by rfl, ?_⟩) ?_ ?_
            rotate_left
            · intro w'
              go_simp
              with_reducible rfl
            rotate_left
            · simp only [Act.put, List.setIfInBounds_toArray, List.set_cons_zero, List.set_cons_succ, i64_w, i32_w]
              rfl
            refine pure_ (i := 8) (N := some 109) (v := ?_) (a' := ?_) #[true, true, true, true, true, false, true, true, true, false, false, false] rfl rfl (by kernel_rfl) (fun _ _ _ h => h) (Or.inl ⟨by rfl, ?_⟩) ?_ ?_
            rotate_left
            · intro w'
              go_simp
              with_reducible rfl
            rotate_left
            · simp only [Act.put, List.setIfInBounds_toArray, List.set_cons_zero, List.set_cons_succ, i64_w, i32_w]
              rfl
            refine pure_ (i := 9) (N := some 110) (v := ?_) (a' := ?_) #[true, true, true, true, true, false, true, true, true, true, false, false] rfl rfl (by kernel_rfl) (fun _ _ _ h => h) (Or.inl ⟨by rfl, ?_⟩) ?_ ?_
            rotate_left
            · intro w'
              go_simp
              with_reducible rfl
            rotate_left
            · simp only [Act.put, List.setIfInBounds_toArray, List.set_cons_zero, List.set_cons_succ, i64_w, i32_w]
              rfl
            refine take_ (i := 5) (N := some 106) (v := ?_) (a' := ?_) #[true, true, true, true, true, true, true, true, true, true, false, false] rfl rfl (by kernel_rfl) (fun _ _ _ h => h) (Or.inl ⟨by rfl, ?_⟩) hHeld ?_ ?_
            rotate_left
            · rintro w' ⟨s0, s1⟩
              go_simp
              with_reducible rfl
            rotate_left
            · simp only [Act.put, List.setIfInBounds_toArray, List.set_cons_zero, List.set_cons_succ, i64_w, i32_w]
              rfl
            refine take_ (i := 10) (N := some 111) (v := ?_) (a' := ?_) #[true, true, true, true, true, true, true, true, true, true, true, false] rfl rfl (by kernel_rfl) (fun _ _ _ h => h) (Or.inl ⟨by rfl, ?_⟩) hHeld ?_ ?_
            rotate_left
            · rintro w' ⟨s0, s1⟩
              go_simp
              with_reducible rfl
            rotate_left
            · simp only [Act.put, List.setIfInBounds_toArray, List.set_cons_zero, List.set_cons_succ, i64_w, i32_w]
              rfl
            refine last_ (i := 11) (N := some 112) #[true, true, true, true, true, true, true, true, true, true, true, true] rfl rfl (by kernel_rfl) (by decide) (fun K hK => ?_)
            refine goes_ Tryd.func12 (by kernel_rfl) rfl #[.pointer (some ⟨pp, 0, none⟩), .int .i64 x.1, .string x.2] (by rfl) rfl rfl (by simp only [List.map_toArray, List.map_cons, List.map_nil]; rfl) ?_
            with_reducible refine (HWA.out).mono ?_
            rintro e w9 ⟨rfl, v9, hR9⟩
            refine ⟨_, rfl, ?_⟩
            refine hK.out _ _ ?_
            clear hK K
            refine norm_ (a' := ?_) ?_ ?_
            rotate_left
            · show Act.put _ (some 112) _ = _
              simp only [Act.put, List.setIfInBounds_toArray, List.set_cons_zero, List.set_cons_succ, i64_w, i32_w]
              rfl
            refine done_ (by kernel_rfl) ?_
            have HR9 := Lib.hid hR9
            have hnx := Hnx.out
            clear hHeld hR9 q0 q1 p1 p2 HWA
            go_wp2
            go_roundw
            case rel => exact ⟨j + 1, v9, Hlt.out, by first | rfl | (rw [hnx]; rfl), ⟨HR9.out⟩⟩
            case measure => have h1 := Hlt.out; first | (rw [hnx]; simp [ixOf, Go.RowKit.intOf]; omega) | (simp [ixOf, Go.RowKit.intOf]; omega)
          · obtain rfl : j = i := by omega
            have hE : ¬ (j < K ∧ j < 40) := by have := Hr.out; omega
            have HAl1 := Lib.hid (fun V (hb : Below wr.heap.size wr V) => alike_calls ((HRj.out.under hb).all ⟨pc, Mc, vc, h, kept⟩ (by simp)).1 ((HRj.out.under hb).all ⟨pd, Md, vd, h, kept⟩ (by simp)).1 rfl)
            have HAl2 := Lib.hid (fun V (hb : Below wr.heap.size wr V) => alike_calls ((HRj.out.under hb).all ⟨pa, Ma, a', pour h m j, kept⟩ (by simp)).1 (HRj.out.under hb).one rfl)
            have HAl3 := Lib.hid (fun V (hb : Below wr.heap.size wr V) => alike_calls ((HRj.out.under hb).all ⟨pb, Mb, b', pour h m j, h.length⟩ (by simp)).1 (HRj.out.under hb).one rfl)
            clear hlt hj
            by_cases h1 : j < K
            · have hd := decide_eq_true (show (j : Int) < (K : Int) by omega)
              have hdn := decide_eq_true h1
              have hd4 := decide_eq_false (show ¬ (j : Int) < 40 by omega)
              have hd4n := decide_eq_false (show ¬ j < 40 by omega)
              clear hE h1
              go_wp2_with fail
              refine (HAl1.out _ (Below.refl _ _)).mono ?_; rintro e z1 ⟨rfl, hz1⟩
              have HZ1 := Lib.hid hz1
              clear hz1
              go_wp2_with fail
              refine (HAl2.out _ HZ1.out).mono ?_; rintro e z2 ⟨rfl, hz2⟩
              have HZ2 := Lib.hid (below_step HZ1.out hz2)
              clear hz2
              go_wp2_with fail
              refine (HAl3.out _ HZ2.out).mono ?_; rintro e z3 ⟨rfl, hz3⟩
              have HZ3 := Lib.hid (below_step HZ2.out hz3)
              clear hz3
              go_wp2_with fail
              refine (HWk.out _).mono ?_; rintro e z4 ⟨rfl, hz4⟩
              have HZ4 := Lib.hid (below_step HZ3.out hz4)
              clear hz4
              go_wp2
              go_ret
              exact ⟨rfl, below_step HRj.out.below HZ4.out⟩
            · have hd := decide_eq_false (show ¬ (j : Int) < (K : Int) by omega)
              have hdn := decide_eq_false h1
              clear hE h1
              go_wp2_with fail
              refine (HAl1.out _ (Below.refl _ _)).mono ?_; rintro e z1 ⟨rfl, hz1⟩
              have HZ1 := Lib.hid hz1
              clear hz1
              go_wp2_with fail
              refine (HAl2.out _ HZ1.out).mono ?_; rintro e z2 ⟨rfl, hz2⟩
              have HZ2 := Lib.hid (below_step HZ1.out hz2)
              clear hz2
              go_wp2_with fail
              refine (HAl3.out _ HZ2.out).mono ?_; rintro e z3 ⟨rfl, hz3⟩
              have HZ3 := Lib.hid (below_step HZ2.out hz3)
              clear hz3
              go_wp2_with fail
              refine (HWk.out _).mono ?_; rintro e z4 ⟨rfl, hz4⟩
              have HZ4 := Lib.hid (below_step HZ3.out hz4)
              clear hz4
              go_wp2
              go_ret
              exact ⟨rfl, below_step HRj.out.below HZ4.out⟩
end Go.Proofs.YteooldbdilkmeaaDoor.SC

namespace Go.Proofs.YteooldbdilkmeaaDoor.SC
open Go.ChangeShapes Go.WideShapes Go.Deep Go.RowKit Go.Proofs.YteooldbdilkmeaaDoorW.PrintWords Go.Proofs.YteooldbdilkmeaaDoorW.PrintLast Go.Proofs.YteooldbdilkmeaaDoorW.PrintMore
set_option linter.unusedVariables false
set_option maxRecDepth 100000
set_option linter.unusedSimpArgs false
section
variable {H : Type} {enc : TypeId × Value → H} {P : Program} {w : World} {base : Nat} {spare : Nat → Bool} {held : Bool}
theorem elem_cells {e : TypeId} {fs : Array Field} {a : Addr} {cs : List Value} {x : DataW H × List MemPlace} {n : Nat} (he : P.underlying e = some (.struct fs)) (hone : oneCellFields P fs = true) (hC : P.cellsOf e = fs.size)
    (hc : w.cells? base a (P.cellsOf e) = some cs) (ht : DataW.trod enc P w base spare held n e cs = some x) (j : Nat) (f : Field) (hj : fs[j]? = some f) :
    ∃ (v : Value) (y : DataW H × List MemPlace) (m : Nat), w.cell? (a.add j) = some v ∧ DataW.trod enc P w base spare held m f.type [v] = some y := by
  obtain ⟨_, hl, hat⟩ := World.cells?_some hc
  obtain ⟨ys, m, _, _, hlen, hyl, hf⟩ := DataW.trod_struct he ht
  have hjl : j < fs.size := (Array.getElem?_eq_some_iff.1 hj).1
  have hjc : j < cs.length := by omega
  have hjy : j < ys.length := by omega
  obtain ⟨ho, hk⟩ := hone_of hone j f hj
  have h1 := hf j f hj
  rw [ho, hk] at h1
  have e1 : (cs.drop j).take 1 = [cs[j]] := by rw [List.drop_eq_getElem_cons hjc]; rfl
  exact ⟨cs[j], ys[j], m, (hat j (by omega)).trans (List.getElem?_eq_getElem hjc), by rw [← e1, h1]; exact List.getElem?_eq_getElem hjy⟩
theorem row_cellsF {t e : TypeId} {fs : Array Field} {v : Value} {x : DataW H × List MemPlace} {fuel : Nat} (ht : P.underlying t = some (.slice e)) (he : P.underlying e = some (.struct fs))
    (hone : oneCellFields P fs = true) (hC : P.cellsOf e = fs.size) (hf : DataW.trod enc P w base (fun _ => true) held fuel t [v] = some x) :
    (v = .slice none 0 0) ∨ ∃ (a : Addr) (len cap : Nat), v = .slice (some a) len cap ∧ len ≤ cap ∧ cap ≤ maxLen ∧
      ∀ i, i < len → ∀ (j : Nat) (f : Field), fs[j]? = some f → ∃ (u : Value) (y : DataW H × List MemPlace) (m : Nat), w.cell? (a.add (i * fs.size + j)) = some u ∧ DataW.trod enc P w base (fun _ => true) held m f.type [u] = some y := by
  rcases open_slice ht hf with ⟨hcs, _⟩ | ⟨a, len, cap, m, n, D, Pl, hcs, _, hl, hm, hmm, hx, hi⟩
  · left; simpa using hcs
  · right
    obtain rfl : v = .slice (some a) len cap := by simpa using hcs
    refine ⟨a, len, cap, rfl, hl, hm, fun i hil j f hj => ?_⟩
    obtain ⟨cs, hc, ht'⟩ := hi i (by rw [hmm]; simp; omega)
    obtain ⟨u, y, m', h1, h2⟩ := elem_cells he hone hC hc ht' j f hj
    refine ⟨u, y, m', ?_, h2⟩
    rw [← h1, Go.Deep.add_add, hC]
theorem row_cells {t e : TypeId} {fs : Array Field} {v : Value} {d : DataW H} {p : List MemPlace} {r : Reach} {b0 : Nat} (ht : P.underlying t = some (.slice e)) (he : P.underlying e = some (.struct fs))
    (hone : oneCellFields P fs = true) (hC : P.cellsOf e = fs.size) (hv : Value.okWide P w r b0 t v) (h : DataW.Trod enc P w base (fun _ => true) held t v d p) :
    (v = .slice none 0 0) ∨ ∃ (a : Addr) (len cap : Nat), v = .slice (some a) len cap ∧ len ≤ cap ∧ cap ≤ maxLen ∧
      ∀ i, i < len → ∀ (j : Nat) (f : Field), fs[j]? = some f → ∃ (u : Value) (y : DataW H × List MemPlace) (m : Nat), w.cell? (a.add (i * fs.size + j)) = some u ∧ DataW.trod enc P w base (fun _ => true) held m f.type [u] = some y := by
  obtain ⟨A, len, cap, rfl⟩ := okWide_slice ht hv
  obtain ⟨fuel, hf⟩ := h
  exact row_cellsF ht he hone hC (x := (d, p)) hf
end
theorem str_cell {H : Type} {enc : TypeId × Value → H} {w : World} {base : Nat} {sp : Nat → Bool} {held : Bool} {m : Nat} {u : Value} {y : DataW H × List MemPlace} (h : DataW.trod enc Tryd.prog w base sp held m 9 [u] = some y) : ∃ s : ByteArray, u = .string s ∧ s.size ≤ maxLen := by
  obtain ⟨s, hx, _, hs⟩ := DataW.trod_string Tryd.underlying9 h
  exact ⟨s, by simpa using hx, hs⟩
theorem int_cell {H : Type} {enc : TypeId × Value → H} {w : World} {base : Nat} {sp : Nat → Bool} {held : Bool} {m : Nat} {u : Value} {y : DataW H × List MemPlace} (h : DataW.trod enc Tryd.prog w base sp held m 3 [u] = some y) : ∃ a : Int, u = .int .i64 a ∧ (Lit.int .i64 a).wf = true := by
  obtain ⟨a, hx, _, hw⟩ := DataW.trod_int Tryd.underlying3 h
  exact ⟨a, by simpa using hx, hw⟩
theorem open_writes {H : Type} {enc : TypeId × Value → H} {w : World} {base : Nat} {held : Bool} {r : Reach} {b0 : Nat} {v : Value} {d : DataW H} {p : List MemPlace}
    (hv : Value.okWide Tryd.prog w r b0 22 v) (h : DataW.Trod enc Tryd.prog w base (fun _ => true) held 22 v d p) :
    ∃ A n c l, v = .slice A n c ∧ n ≤ c ∧ n ≤ maxLen ∧ kA.C w A n l ∧ ∀ x ∈ l, (Lit.int .i64 x.1).wf = true ∧ x.2.size ≤ maxLen := by
  rcases row_cells Tryd.underlying22 Tryd.underlying31 (by kernel_rfl) (by kernel_rfl) hv h with rfl | ⟨a, len, cap, rfl, hl, hm, hi⟩
  · exact ⟨none, 0, 0, [], rfl, Nat.le_refl _, by decide, Kd.C_nil kA w, fun x hx => by cases hx⟩
  · have hex : ∀ i, i < len → ∃ x : Wa, w.cell? (a.add (i * 2 + 0)) = some (.int .i64 x.1) ∧ w.cell? (a.add (i * 2 + 1)) = some (.string x.2) ∧ (Lit.int .i64 x.1).wf = true ∧ x.2.size ≤ maxLen := fun i hil => by
      obtain ⟨u0, y0, m0, c0, t0⟩ := hi i hil 0 _ rfl
      obtain ⟨u1, y1, m1, c1, t1⟩ := hi i hil 1 _ rfl
      obtain ⟨a0, rfl, hw⟩ := int_cell t0
      obtain ⟨s0, rfl, hs⟩ := str_cell t1
      exact ⟨(a0, s0), c0, c1, hw, hs⟩
    let l : List Wa := (List.range len).map fun i => if hil : i < len then (hex i hil).choose else (0, E0)
    have hlat : ∀ i (hil : i < len) (x : Wa), l[i]? = some x → x = (hex i hil).choose := fun i hil x hx => by
      have : l[i]? = some (if hil : i < len then (hex i hil).choose else (0, E0)) := by
        show ((List.range len).map _)[i]? = _
        rw [List.getElem?_map, List.getElem?_range hil]
        rfl
      rw [this, dif_pos hil] at hx
      injection hx with hx
      exact hx.symm
    have hll : l.length = len := by show ((List.range len).map _).length = len; simp
    refine ⟨some a, len, cap, l, rfl, hl, by omega, ⟨hll, by simp only [maxLen] at hm; omega, fun _ => ⟨a, rfl, fun j x hj => ?_⟩⟩, fun x hx => ?_⟩
    · have hjl : j < len := by have := (List.getElem?_eq_some_iff.1 hj).1; omega
      have hc := (hex j hjl).choose_spec
      rw [← hlat j hjl x hj] at hc
      refine ⟨aCells x, rfl, ⟨[.int .i64 x.1], [.string x.2], rfl, rfl, rfl⟩, fun i u hu => ?_⟩
      match i, hu with
      | 0, hu => obtain rfl : _ = u := by simpa [aCells] using hu
                 exact hc.1
      | 1, hu => obtain rfl : _ = u := by simpa [aCells] using hu
                 exact hc.2.1
      | i + 2, hu => simp [aCells] at hu
    · obtain ⟨j, hj⟩ := List.getElem?_of_mem hx
      have hjl : j < len := by have := (List.getElem?_eq_some_iff.1 hj).1; omega
      have hc := (hex j hjl).choose_spec
      rw [← hlat j hjl x hj] at hc
      exact hc.2.2
end Go.Proofs.YteooldbdilkmeaaDoor.SC
