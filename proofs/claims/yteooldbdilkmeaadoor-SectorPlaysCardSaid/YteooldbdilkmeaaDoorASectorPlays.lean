/- The own texts that the statement SectorPlays leans on: SecP, SecMap, SecW, SecRead, SecPut, SecWrite, SecLog, SecCut, SecCopy, SecWorks, SecRef, SecWrit, SecAlike, SecLast, SecCuts, SecRef2, SecRef3, SecRef4, SecRef5, SecUsed, SecRef6. -/
import Derived.Lib.TrimByte
import Derived.Lib.Repeat
import Derived.Maps.OwnSet
import Derived.Maps.Range
import Derived.Lib.SlKeysI
import Derived.Test.YteooldbdilkmeaaDoorProg
import Derived.Test.YteooldbdilkmeaaDoorWLast
import Derived.Test.YteooldbdilkmeaaDoorWMore
import Derived.Lib.Hide
import Derived.Outline
import Derived.Deep.DeepCutAuto
import Derived.Shelf.SlMaps.Clone
import Derived.Test.YteooldbdilkmeaaDoorShelf
import Derived.Test.YteooldbdilkmeaaDoorIter
import Derived.Lib.SliceRun
import Derived.Lib.ConvBytes
import Derived.Test.YteooldbdilkmeaaDoorWEqStruct
namespace Go.Proofs.YteooldbdilkmeaaDoor.SC
set_option linter.unusedVariables false
set_option linter.unusedSimpArgs false
abbrev Hist := List (Nat × ByteArray)
def E0 : ByteArray := ByteArray.empty
def trim (s : ByteArray) : ByteArray := ⟨(Lib.trimRightB s.data.toList 0).toArray⟩
def zeros (n : Nat) : ByteArray := ⟨(List.replicate n (0 : UInt8)).toArray⟩
def full (s : ByteArray) : ByteArray := s ++ zeros (512 - s.size)
def Slim (s : ByteArray) : Prop := s.size ≤ 512 ∧ trim s = s
theorem dropW : ∀ (l : List UInt8), ∃ k, l = List.replicate k 0 ++ l.dropWhile (· == 0) ∧ (∀ b, (l.dropWhile (· == 0)).head? = some b → b ≠ 0)
  | [] => ⟨0, rfl, by simp⟩
  | b :: r => by
    by_cases h : b = 0
    · subst h
      obtain ⟨k, h1, h2⟩ := dropW r
      refine ⟨k + 1, ?_, ?_⟩
      · rw [List.dropWhile_cons_of_pos (by rfl), List.replicate_succ, List.cons_append, ← h1]
      · rw [List.dropWhile_cons_of_pos (by rfl)]; exact h2
    · refine ⟨0, ?_, ?_⟩
      · rw [List.dropWhile_cons_of_neg (by simpa using h)]; rfl
      · rw [List.dropWhile_cons_of_neg (by simpa using h)]
        intro c hc
        simp at hc
        rw [← hc]; exact h
theorem trimL_split (l : List UInt8) : ∃ k, l = Lib.trimRightB l 0 ++ List.replicate k 0 := by
  obtain ⟨k, h, _⟩ := dropW l.reverse
  refine ⟨k, ?_⟩
  have := congrArg List.reverse h
  rw [List.reverse_reverse, List.reverse_append, List.reverse_replicate] at this
  exact this
theorem dropW_rep (k : Nat) (l : List UInt8) : (List.replicate k 0 ++ l).dropWhile (· == 0) = l.dropWhile (· == 0) := by
  induction k with
  | zero => rfl
  | succ k ih => rw [List.replicate_succ, List.cons_append, List.dropWhile_cons_of_pos (by rfl), ih]
theorem trimL_zeros (l : List UInt8) (k : Nat) : Lib.trimRightB (l ++ List.replicate k 0) 0 = Lib.trimRightB l 0 := by
  unfold Lib.trimRightB
  rw [List.reverse_append, List.reverse_replicate, dropW_rep]
theorem trimL_trimL (l : List UInt8) : Lib.trimRightB (Lib.trimRightB l 0) 0 = Lib.trimRightB l 0 := by
  obtain ⟨k, h⟩ := trimL_split l
  have := trimL_zeros (Lib.trimRightB l 0) k
  rw [← h] at this
  exact this.symm
theorem ext' {a b : ByteArray} (h : a.data.toList = b.data.toList) : a = b := by
  cases a; cases b
  congr 1
  exact Array.toList_inj.1 h
theorem toL_append (a b : ByteArray) : (a ++ b).data.toList = a.data.toList ++ b.data.toList := by
  rw [ByteArray.data_append, Array.toList_append]
theorem size_toL (a : ByteArray) : a.size = a.data.toList.length := rfl
theorem trim_toL (s : ByteArray) : (trim s).data.toList = Lib.trimRightB s.data.toList 0 := rfl
theorem zeros_toL (n : Nat) : (zeros n).data.toList = List.replicate n 0 := rfl
theorem full_toL (s : ByteArray) : (full s).data.toList = s.data.toList ++ List.replicate (512 - s.size) 0 := by
  unfold full; rw [toL_append]; rfl
theorem trim_trim (s : ByteArray) : trim (trim s) = trim s := ext' (by rw [trim_toL, trim_toL, trimL_trimL])
theorem trim_size (s : ByteArray) : (trim s).size ≤ s.size := by
  obtain ⟨k, h⟩ := trimL_split s.data.toList
  have := congrArg List.length h
  rw [List.length_append, List.length_replicate] at this
  rw [size_toL, size_toL, trim_toL]
  omega
theorem trim_slim (s : ByteArray) (h : s.size ≤ 512) : Slim (trim s) := ⟨Nat.le_trans (trim_size s) h, trim_trim s⟩
theorem slim_empty : Slim E0 := ⟨by decide, by decide⟩
theorem full_size (s : ByteArray) (h : s.size ≤ 512) : (full s).size = 512 := by
  rw [size_toL, full_toL, List.length_append, List.length_replicate, ← size_toL]
  omega
theorem trim_full (s : ByteArray) : trim (full s) = trim s := ext' (by rw [trim_toL, full_toL, trimL_zeros, trim_toL])
theorem rep_of_len {k m : Nat} (h : k = m) : List.replicate k (0 : UInt8) = List.replicate m 0 := by rw [h]
theorem full_trim (s : ByteArray) (h : s.size ≤ 512) : full (trim s) = full s := by
  apply ext'
  obtain ⟨k, hk⟩ := trimL_split s.data.toList
  have hl := congrArg List.length hk
  rw [List.length_append, List.length_replicate, ← size_toL] at hl
  have hts : (trim s).size = (Lib.trimRightB s.data.toList 0).length := by rw [size_toL, trim_toL]
  rw [full_toL, full_toL, trim_toL]
  conv => rhs; rw [hk]
  rw [List.append_assoc, List.replicate_append_replicate]
  congr 1
  exact rep_of_len (by omega)
theorem slim_full {s : ByteArray} (h : Slim s) : trim (full s) = s := by rw [trim_full, h.2]
theorem full_inj {a b : ByteArray} (ha : Slim a) (hb : Slim b) (h : full a = full b) : a = b := by rw [← slim_full ha, h, slim_full hb]
theorem full_zeros : full E0 = zeros 512 := ext' (by rw [full_toL]; rfl)
def upd (f : Nat → ByteArray) (a : Nat) (s : ByteArray) : Nat → ByteArray := fun i => if i = a then s else f i
def cont (h : Hist) : Nat → ByteArray := h.foldl (fun f p => upd f p.1 p.2) fun _ => E0
theorem cont_snoc (h : Hist) (a : Nat) (s : ByteArray) : cont (h ++ [(a, s)]) = upd (cont h) a s := by unfold cont; rw [List.foldl_append]; rfl
def Good (n : Nat) (h : Hist) : Prop := ∀ p ∈ h, p.1 < n ∧ Slim p.2
theorem Good.nil (n : Nat) : Good n [] := fun p hp => by cases hp
theorem Good.snoc {n : Nat} {h : Hist} (g : Good n h) {a : Nat} {s : ByteArray} (ha : a < n) (hs : Slim s) : Good n (h ++ [(a, s)]) := fun p hp => by
  rcases List.mem_append.1 hp with hp | hp
  · exact g p hp
  · obtain rfl := List.mem_singleton.1 hp
    exact ⟨ha, hs⟩
theorem Good.take {n : Nat} {h : Hist} (g : Good n h) (k : Nat) : Good n (h.take k) := fun p hp => g p (List.mem_of_mem_take hp)
theorem Good.drop {n : Nat} {h : Hist} (g : Good n h) (k : Nat) : Good n (h.drop k) := fun p hp => g p (List.mem_of_mem_drop hp)
theorem snoc_ind {P : Hist → Prop} (h0 : P []) (hs : ∀ h a s, P h → P (h ++ [(a, s)])) : ∀ h, P h := fun h => by
  have key : ∀ l : Hist, P l.reverse := fun l => by
    induction l with
    | nil => exact h0
    | cons p r ih => rw [List.reverse_cons]; exact hs _ p.1 p.2 ih
  have := key h.reverse
  rwa [List.reverse_reverse] at this
theorem Good.init {n : Nat} {h : Hist} {a : Nat} {s : ByteArray} (g : Good n (h ++ [(a, s)])) : Good n h := fun p hp => g p (List.mem_append_left _ hp)
theorem Good.last {n : Nat} {h : Hist} {a : Nat} {s : ByteArray} (g : Good n (h ++ [(a, s)])) : a < n ∧ Slim s := g (a, s) (by simp)
theorem cont_slim {n : Nat} : ∀ h : Hist, Good n h → ∀ i, Slim (cont h i) := snoc_ind (fun _ i => slim_empty) fun h a s ih g i => by
  rw [cont_snoc]
  unfold upd
  by_cases hi : i = a
  · rw [if_pos hi]; exact g.last.2
  · rw [if_neg hi]; exact ih g.init i
theorem upd_back (f : Nat → ByteArray) (a : Nat) (s : ByteArray) : upd (upd f a s) a (f a) = f := by
  funext i
  unfold upd
  by_cases h : i = a
  · rw [if_pos h, h]
  · rw [if_neg h, if_neg h]
theorem take_next (h : Hist) (k : Nat) (hk : k < h.length) : h.take (k + 1) = h.take k ++ [h[k]] := by rw [List.take_succ_eq_append_getElem hk]
theorem cont_back (h : Hist) (k : Nat) (hk : k < h.length) : upd (cont (h.take (k + 1))) (h[k]).1 (cont (h.take k) (h[k]).1) = cont (h.take k) := by
  have e : h.take (k + 1) = h.take k ++ [((h[k]).1, (h[k]).2)] := take_next h k hk
  rw [e, cont_snoc, upd_back]
def used (n : Nat) (f : Nat → ByteArray) : List Nat := (List.range n).filter fun i => !decide (f i = E0)
theorem used_mem {n : Nat} {f : Nat → ByteArray} (i : Nat) : i ∈ used n f ↔ i < n ∧ f i ≠ E0 := by
  unfold used
  simp
theorem used_sorted (n : Nat) (f : Nat → ByteArray) : (used n f).Pairwise (· < ·) := List.Pairwise.filter _ List.pairwise_lt_range
theorem rising_eq : ∀ {l m : List Nat}, l.Pairwise (· < ·) → m.Pairwise (· < ·) → (∀ x, x ∈ l ↔ x ∈ m) → l = m
  | [], [], _, _, _ => rfl
  | [], b :: m, _, _, h => absurd ((h b).2 (by simp)) (by simp)
  | a :: l, [], _, _, h => absurd ((h a).1 (by simp)) (by simp)
  | a :: l, b :: m, hl, hm, h => by
    rw [List.pairwise_cons] at hl hm
    have hab : a = b := by
      have h1 := (h a).1 (by simp)
      have h2 := (h b).2 (by simp)
      rcases List.mem_cons.1 h1 with e | e
      · exact e
      · rcases List.mem_cons.1 h2 with e2 | e2
        · exact e2.symm
        · have := hm.1 a e
          have := hl.1 b e2
          omega
    subst hab
    rw [rising_eq hl.2 hm.2 fun x => ⟨fun hx => by
      rcases List.mem_cons.1 ((h x).1 (List.mem_cons_of_mem _ hx)) with e | e
      · have := hl.1 x hx; omega
      · exact e, fun hx => by
      rcases List.mem_cons.1 ((h x).2 (List.mem_cons_of_mem _ hx)) with e | e
      · have := hm.1 x hx; omega
      · exact e⟩]
end Go.Proofs.YteooldbdilkmeaaDoor.SC

namespace Go.Proofs.YteooldbdilkmeaaDoor.SC
open Go Go.Maps
set_option linter.unusedVariables false
set_option linter.unusedSimpArgs false
def heldV (s : ByteArray) : Value := .agg #[.string s]
def heldD (s : ByteArray) : DataW Unit := .lit (.string s.data.toList)
def heldE : Value → Option (DataW Unit × List MemPlace)
  | .agg cs => match cs.toList with
    | [.string s] => some (heldD s, [])
    | _ => none
  | _ => none
theorem heldE_mk (s : ByteArray) : heldE (heldV s) = some (heldD s, []) := rfl
theorem heldE_inv {v : Value} {z : DataW Unit × List MemPlace} (h : heldE v = some z) : ∃ s, v = heldV s ∧ z = (heldD s, []) := by
  unfold heldE at h
  split at h
  · rename_i cs
    split at h
    · rename_i s hs
      injection h with h
      refine ⟨s, ?_, h.symm⟩
      unfold heldV
      congr 1
      exact Array.toList_inj.1 hs
    · cases h
  · cases h
theorem heldD_inj {a b : ByteArray} (h : heldD a = heldD b) : a = b := by
  unfold heldD at h
  injection h with h
  injection h with h
  exact ext' h
abbrev kx (i : Nat) : Lit := .int .i64 (i : Int)
theorem kx_key (x : Int) : WideAt.IsKeyLit (.int .i64 x) := trivial
theorem kx_ne {i j : Int} (h : i ≠ j) : (Lit.int .i64 i) ≠ Lit.int .i64 j := fun e => h (by injection e)
structure MapIs (D : DataW Unit) (n : Nat) (f : Nat → ByteArray) : Prop where
  tidy : Tidy D
  at_ : ∀ i : Nat, D.atKey (kx i) (heldD E0) = heldD (f i)
  has_ : ∀ x : Int, Maps.has D (.int .i64 x) = true ↔ ∃ i : Nat, x = (i : Int) ∧ i < n ∧ f i ≠ E0
theorem MapIs.made (n : Nat) : MapIs (.map []) n fun _ => E0 :=
  ⟨tidy_empty, fun i => rfl, fun x => ⟨fun h => by simp [Maps.has] at h, fun ⟨i, _, _, h⟩ => absurd rfl h⟩⟩
theorem MapIs.put {D : DataW Unit} {n : Nat} {f : Nat → ByteArray} (h : MapIs D n f) {i : Nat} (hi : i < n) {s : ByteArray} (hs : s ≠ E0) : MapIs (D.put (kx i) (heldD s)) n (upd f i s) := by
  refine ⟨h.tidy.put (kx_key _) _, fun j => ?_, fun x => ?_⟩
  · unfold upd
    by_cases e : j = i
    · rw [if_pos e, e, atKey_put_same h.tidy.isMap (kx_key _)]
    · rw [if_neg e, atKey_put_other (kx_ne (by omega)), h.at_]
  · by_cases e : x = (i : Int)
    · subst e
      rw [show (Lit.int .i64 (i : Int)) = kx i from rfl, has_put_same h.tidy.isMap (kx_key _)]
      exact ⟨fun _ => ⟨i, rfl, hi, by unfold upd; rw [if_pos rfl]; exact hs⟩, fun _ => rfl⟩
    · rw [has_put_other (kx_ne e), h.has_]
      constructor
      · rintro ⟨j, rfl, h1, h2⟩
        exact ⟨j, rfl, h1, by unfold upd; rw [if_neg (by omega)]; exact h2⟩
      · rintro ⟨j, rfl, h1, h2⟩
        unfold upd at h2
        rw [if_neg (by omega)] at h2
        exact ⟨j, rfl, h1, h2⟩
theorem MapIs.del {D : DataW Unit} {n : Nat} {f : Nat → ByteArray} (h : MapIs D n f) (i : Nat) : MapIs (D.del (kx i)) n (upd f i E0) := by
  refine ⟨h.tidy.del _, fun j => ?_, fun x => ?_⟩
  · unfold upd
    by_cases e : j = i
    · rw [if_pos e, e, atKey_del_same]
    · rw [if_neg e, atKey_del_other (kx_ne (by omega)), h.at_]
  · by_cases e : x = (i : Int)
    · subst e
      rw [show (Lit.int .i64 (i : Int)) = kx i from rfl, has_del_same]
      refine ⟨fun h => by simp at h, fun ⟨j, h1, _, h2⟩ => ?_⟩
      obtain rfl : i = j := by omega
      unfold upd at h2
      rw [if_pos rfl] at h2
      exact absurd rfl h2
    · rw [has_del_other (kx_ne e), h.has_]
      constructor
      · rintro ⟨j, rfl, h1, h2⟩
        exact ⟨j, rfl, h1, by unfold upd; rw [if_neg (by omega)]; exact h2⟩
      · rintro ⟨j, rfl, h1, h2⟩
        unfold upd at h2
        rw [if_neg (by omega)] at h2
        exact ⟨j, rfl, h1, h2⟩
theorem MapIs.congr {D : DataW Unit} {n : Nat} {f g : Nat → ByteArray} (h : MapIs D n f) (e : f = g) : MapIs D n g := e ▸ h
section
variable {P : Program} {k : TypeId} {W : World} {b nn n : Nat} {D : DataW Unit} {f : Nat → ByteArray}
theorem keys_are (hk : P.underlying k = some (.int .i64)) (hown : W.ownsMap P k heldE b nn D) : ∃ es, D = .map es ∧ es.Pairwise (fun p q => p.1 ≠ q.1) ∧ ∀ p ∈ es, ∃ x, p.1 = Lit.int .i64 x := by
  obtain ⟨es, hD, hpw, _⟩ := hown.entries (int_keyed hk)
  refine ⟨es, hD, hpw, fun p hp => ?_⟩
  obtain ⟨ms, clock, _, F, _, hD2⟩ := hown
  rw [hD] at hD2
  injection hD2 with hD2
  rw [hD2] at hp
  obtain ⟨x, hx, rfl⟩ := List.mem_map.1 (mem_sorted.1 hp)
  obtain ⟨y, hy⟩ := F.reads x hx
  rw [WideElems.rg_of hy]
  obtain ⟨x', _, hkl, _⟩ := Maps.keyOf_i64 hk (WideElems.rd_key hy)
  exact ⟨x', hkl⟩
theorem keys_used (hk : P.underlying k = some (.int .i64)) (hown : W.ownsMap P k heldE b nn D) (h : MapIs D n f) : ((used n f).map fun (i : Nat) => (i : Int)).Perm (intKeys D) := by
  obtain ⟨es, rfl, hpw, hks⟩ := keys_are hk hown
  refine perm_intKeys hpw hks ?_ fun x => ?_
  · have := (used_sorted n f).imp (fun {a b} (h : a < b) => Nat.ne_of_lt h)
    exact List.Pairwise.map _ (fun a b hab e => hab (by omega)) this
  · rw [h.has_, List.mem_map]
    constructor
    · rintro ⟨i, hi, rfl⟩
      have := (used_mem i).1 hi
      exact ⟨i, rfl, this.1, this.2⟩
    · rintro ⟨i, rfl, h1, h2⟩
      exact ⟨i, (used_mem i).2 ⟨h1, h2⟩, rfl⟩
theorem used_le (n : Nat) (f : Nat → ByteArray) : (used n f).length ≤ n := by
  have := List.length_filter_le (fun i => !decide (f i = E0)) (List.range n)
  rw [List.length_range] at this
  exact this
theorem size_used (hk : P.underlying k = some (.int .i64)) (hown : W.ownsMap P k heldE b nn D) (h : MapIs D n f) : Maps.size D = (used n f).length := by
  have hl := (keys_used hk hown h).length_eq
  rw [List.length_map] at hl
  obtain ⟨es, hD, _⟩ := keys_are hk hown
  subst hD
  rw [hl]
  simp [Maps.size, intKeys]
theorem own_norm (hk : P.underlying k = some (.int .i64)) (hown : W.ownsMap P k heldE b nn D) (h : MapIs D n f) : W.ownsMap P k heldE b n D := by
  have hs := size_used hk hown h
  have hle := used_le n f
  obtain ⟨es, clock, hb, F, _, hD⟩ := hown
  refine ⟨es, clock, hb, F, ?_, hD⟩
  rw [hD] at hs
  simp only [Maps.size, length_sorted, List.length_map, Array.length_toList] at hs
  omega
theorem sorted_used (hk : P.underlying k = some (.int .i64)) (hown : W.ownsMap P k heldE b nn D) (h : MapIs D n f) {ss : List Int} (hp : ss.Perm (intKeys D)) : ss.mergeSort (fun x y => decide (x ≤ y)) = (used n f).map fun (i : Nat) => (i : Int) := by
  have e := mergeSort_of_perm_i (hp.trans (keys_used hk hown h).symm)
  have : ((used n f).map fun (i : Nat) => (i : Int)).mergeSort leI = (used n f).map fun (i : Nat) => (i : Int) := by
    refine List.mergeSort_of_pairwise ?_
    refine List.Pairwise.map _ (fun a b hab => ?_) (used_sorted n f)
    show decide ((a : Int) ≤ (b : Int)) = true
    have : a < b := hab
    exact decide_eq_true (by omega)
  rw [this] at e
  exact e
end
end Go.Proofs.YteooldbdilkmeaaDoor.SC

namespace Go.Proofs.YteooldbdilkmeaaDoor.SC
open Go.RowKit Go.Maps Go.Proofs.YteooldbdilkmeaaDoorW.PrintWords Go.Proofs.YteooldbdilkmeaaDoorW.PrintLast Go.Proofs.YteooldbdilkmeaaDoorW.PrintMore
set_option linter.unusedVariables false
set_option linter.unusedSimpArgs false
abbrev ixOf (v : Value) : Int := Go.RowKit.intOf v
abbrev Wr := Int × (ByteArray × ByteArray)
abbrev Wa := Int × ByteArray
def kW : Kd Wr := Kd.pair (Kd.int .i64) (Kd.pair Kd.string Kd.string)
def kA : Kd Wa := Kd.pair (Kd.int .i64) Kd.string
def wCells (x : Wr) : List Value := [.int .i64 x.1, .string x.2.1, .string x.2.2]
def aCells (x : Wa) : List Value := [.int .i64 x.1, .string x.2]
theorem kW_mk (w : World) (base : Nat) (ok : Nat → Prop) (x : Wr) : kW.M w base ok x (wCells x) := ⟨[.int .i64 x.1], [.string x.2.1, .string x.2.2], rfl, rfl, ⟨[.string x.2.1], [.string x.2.2], rfl, rfl, rfl⟩⟩
theorem kA_mk (w : World) (base : Nat) (ok : Nat → Prop) (x : Wa) : kA.M w base ok x (aCells x) := ⟨[.int .i64 x.1], [.string x.2], rfl, rfl, rfl⟩
theorem kW_open {w : World} {x : Wr} {cs : List Value} (h : kW.K w x cs) : cs = wCells x := by
  obtain ⟨_, _, rfl, rfl, ⟨_, _, rfl, rfl, rfl⟩⟩ := h
  rfl
theorem kA_open {w : World} {x : Wa} {cs : List Value} (h : kA.K w x cs) : cs = aCells x := by
  obtain ⟨_, _, rfl, rfl, rfl⟩ := h
  rfl
theorem kW_move {w w1 : World} {e base : Nat} {v : Value} {xs : List Wr} (h : kW.R e w base (fun _ => True) v xs) (hm : ∀ k, v.ownBlock = some k → w1.heap[k]? = w.heap[k]?) : kW.R e w1 base (fun _ => True) v xs := by
  obtain ⟨_, inner, ho, hr⟩ := h
  exact ⟨fun _ _ => trivial, inner, own_move ho hm, hr⟩
theorem kA_move {w w1 : World} {e base : Nat} {v : Value} {xs : List Wa} (h : kA.R e w base (fun _ => True) v xs) (hm : ∀ k, v.ownBlock = some k → w1.heap[k]? = w.heap[k]?) : kA.R e w1 base (fun _ => True) v xs := by
  obtain ⟨_, inner, ho, hr⟩ := h
  exact ⟨fun _ _ => trivial, inner, own_move ho hm, hr⟩
def entry (h : Hist) (k : Nat) : Wr := (((h.getD k (0, E0)).1 : Int), (h.getD k (0, E0)).2, cont (h.take k) (h.getD k (0, E0)).1)
def logOf (h : Hist) (kept : Nat) : List Wr := (List.range (h.length - kept)).map fun j => entry h (kept + j)
theorem logOf_length (h : Hist) (kept : Nat) : (logOf h kept).length = h.length - kept := by simp [logOf]
theorem entry_snoc (h : Hist) (a : Nat) (s : ByteArray) (k : Nat) (hk : k < h.length) : entry (h ++ [(a, s)]) k = entry h k := by
  unfold entry
  have e1 : (h ++ [(a, s)]).getD k (0, E0) = h.getD k (0, E0) := by rw [List.getD_eq_getElem?_getD, List.getD_eq_getElem?_getD, List.getElem?_append_left hk]
  rw [e1, List.take_append_of_le_length (by omega)]
theorem entry_last (h : Hist) (a : Nat) (s : ByteArray) : entry (h ++ [(a, s)]) h.length = ((a : Int), s, cont h a) := by
  unfold entry
  have e1 : (h ++ [(a, s)]).getD h.length (0, E0) = (a, s) := by rw [List.getD_eq_getElem?_getD, List.getElem?_append_right (Nat.le_refl _)]; simp
  rw [e1, List.take_append_of_le_length (Nat.le_refl _), List.take_length]
theorem logOf_snoc (h : Hist) (kept : Nat) (hk : kept ≤ h.length) (a : Nat) (s : ByteArray) : logOf (h ++ [(a, s)]) kept = logOf h kept ++ [((a : Int), s, cont h a)] := by
  unfold logOf
  rw [List.length_append, List.length_singleton, show h.length + 1 - kept = (h.length - kept) + 1 by omega, List.range_succ, List.map_append, List.map_singleton, show kept + (h.length - kept) = h.length by omega, entry_last]
  congr 1
  apply List.map_congr_left
  intro j hj
  have := List.mem_range.1 hj
  exact entry_snoc h a s _ (by omega)
theorem logOf_none (h : Hist) : logOf h h.length = [] := by unfold logOf; rw [Nat.sub_self]; rfl
structure DkAt (W : World) (p M : Nat) (v : Value) (n : Nat) (h : Hist) (kept : Nat) : Prop where
  blk : W.heap[p]? = some (.cells #[.int .i64 (n : Int), .map (some M), v] 58 (0, 0))
  map : ∃ D, W.ownsMap Tryd.prog 3 heldE M n D ∧ MapIs D n (cont h)
  row : kW.R 65 W 0 (fun _ => True) v (logOf h kept)
  le : kept ≤ h.length
  good : Good n h
  nn : 256 ≤ n ∧ n ≤ 131072
theorem DkAt.map_blk {W : World} {p M n kept : Nat} {v : Value} {h : Hist} (H : DkAt W p M v n h kept) : ∃ es clock, W.heap[M]? = some (.map es clock) := by
  obtain ⟨D, ⟨es, clock, hb, _⟩, _⟩ := H.map
  exact ⟨es, clock, hb⟩
theorem DkAt.lt {W : World} {p M n kept : Nat} {v : Value} {h : Hist} (H : DkAt W p M v n h kept) : p < W.heap.size ∧ M < W.heap.size ∧ ∀ k, v.ownBlock = some k → k < W.heap.size := by
  obtain ⟨D, ho, _⟩ := H.map
  exact ⟨blk_lt H.blk, ho.lt, Kd.R_lt H.row⟩
theorem ownsMap_move {W W' : World} {M n : Nat} {D : DataW Unit} (h : W.ownsMap Tryd.prog 3 heldE M n D) (hM : W'.heap[M]? = W.heap[M]?) : W'.ownsMap Tryd.prog 3 heldE M n D := by
  obtain ⟨es, clock, hb, r⟩ := h
  exact ⟨es, clock, hM.trans hb, r⟩
theorem DkAt.move {W W' : World} {p M n kept : Nat} {v : Value} {h : Hist} (H : DkAt W p M v n h kept) (hp : W'.heap[p]? = W.heap[p]?) (hM : W'.heap[M]? = W.heap[M]?) (hv : ∀ k, v.ownBlock = some k → W'.heap[k]? = W.heap[k]?) : DkAt W' p M v n h kept := by
  obtain ⟨D, ho, hd⟩ := H.map
  exact ⟨hp.trans H.blk, ⟨D, ownsMap_move ho hM, hd⟩, kW_move H.row hv, H.le, H.good, H.nn⟩
theorem DkAt.below {W W' : World} {p M n kept : Nat} {v : Value} {h : Hist} (H : DkAt W p M v n h kept) {m : Nat} (hb : Below m W W') (hm : W.heap.size ≤ m) : DkAt W' p M v n h kept :=
  H.move (hb.block p (Nat.lt_of_lt_of_le H.lt.1 hm)) (hb.block M (Nat.lt_of_lt_of_le H.lt.2.1 hm)) fun k hk => hb.block k (Nat.lt_of_lt_of_le (H.lt.2.2 k hk) hm)
theorem DkAt.drew {W : World} {p M n kept : Nat} {v : Value} {h : Hist} (H : DkAt W p M v n h kept) : DkAt W.drew p M v n h kept := H.move rfl rfl fun _ _ => rfl
structure OnlyD (p M : Nat) (v : Value) (w w' : World) : Prop where
  os : w'.os = w.os
  tape : w'.tape = w.tape
  output : w'.output = w.output
  size : w.heap.size ≤ w'.heap.size
  block : ∀ k, k < w.heap.size → k ≠ p → k ≠ M → some k ≠ v.ownBlock → w'.heap[k]? = w.heap[k]?
theorem OnlyD.refl (p M : Nat) (v : Value) (w : World) : OnlyD p M v w w := ⟨rfl, rfl, rfl, Nat.le_refl _, fun _ _ _ _ _ => rfl⟩
def Moved (w : World) (v v' : Value) : Prop := v'.ownBlock = v.ownBlock ∨ ∀ k, v'.ownBlock = some k → w.heap.size ≤ k
theorem Moved.refl (w : World) (v : Value) : Moved w v v := .inl rfl
theorem Moved.trans {w w' : World} {v v' v'' : Value} (h : Moved w v v') (h' : Moved w' v' v'') (hs : w.heap.size ≤ w'.heap.size) : Moved w v v'' := by
  rcases h' with h' | h'
  · rcases h with h | h
    · exact .inl (h'.trans h)
    · exact .inr fun k hk => h k (h' ▸ hk)
  · exact .inr fun k hk => Nat.le_trans hs (h' k hk)
theorem OnlyD.trans {p M : Nat} {v v' : Value} {a b c : World} (h : OnlyD p M v a b) (k : OnlyD p M v' b c) (hm : Moved a v v') : OnlyD p M v a c :=
  ⟨k.os.trans h.os, k.tape.trans h.tape, k.output.trans h.output, Nat.le_trans h.size k.size, fun i hi h1 h2 h3 => (k.block i (Nat.lt_of_lt_of_le hi h.size) h1 h2 (fun e => by
    rcases hm with hm | hm
    · exact h3 (e.trans hm)
    · have := hm i e.symm; omega)).trans (h.block i hi h1 h2 h3)⟩
theorem OnlyD.of {p M n : Nat} {v : Value} {a b : World} (h : Below n a b) (hn : a.heap.size ≤ n) : OnlyD p M v a b := ⟨h.os, h.tape, h.output, h.size, fun k hk _ _ _ => h.block k (Nat.lt_of_lt_of_le hk hn)⟩
theorem OnlyD.grown {p M : Nat} {v : Value} {a b : World} {r : Option Nat} (h : a.grownBy b r) (hr : ∀ k, r = some k → k = p ∨ k = M ∨ some k = v.ownBlock ∨ a.heap.size ≤ k) : OnlyD p M v a b :=
  ⟨h.os, h.tape, h.output, h.size, fun k hk h1 h2 h3 => h.block k hk (fun e => by rcases hr k e.symm with h | h | h | h; exact h1 h; exact h2 h; exact h3 h; omega)⟩
theorem OnlyD.below {p M base : Nat} {v : Value} {a b c : World} (h : Below base a b) (o : OnlyD p M v b c) (hb : base ≤ b.heap.size) (hp : base ≤ p) (hM : base ≤ M) (hv : ∀ k, v.ownBlock = some k → base ≤ k) : Below base a c :=
  ⟨o.os.trans h.os, o.tape.trans h.tape, o.output.trans h.output, Nat.le_trans h.size o.size, fun k hk => (o.block k (Nat.lt_of_lt_of_le hk hb) (by omega) (by omega) (fun e => by have := hv k e.symm; omega)).trans (h.block k hk)⟩
theorem OnlyD.drew {p M : Nat} {v : Value} {a b : World} (h : OnlyD p M v a b) : OnlyD p M v a b.drew := ⟨h.os, h.tape, h.output, h.size, h.block⟩
theorem DkAt.other {W W' : World} {p M n kept : Nat} {v : Value} {h : Hist} (H : DkAt W p M v n h kept) {p' M' : Nat} {v' : Value} {n' kept' : Nat} {h' : Hist} (H' : DkAt W p' M' v' n' h' kept') (o : OnlyD p' M' v' W W') (h1 : p ≠ p') (h2 : M ≠ M') (h3 : ∀ k, v.ownBlock = some k → v'.ownBlock ≠ some k) : DkAt W' p M v n h kept := by
  obtain ⟨es, ck, hM⟩ := H.map_blk
  obtain ⟨es', ck', hM'⟩ := H'.map_blk
  have hv : ∀ k, v.ownBlock = some k → ∃ c, W.heap[k]? = some (.cells c 65 (0, 0)) := fun k hk => by
    obtain ⟨inner, ho⟩ := Kd.R_own H.row
    exact own_typed ho k hk
  have hv' : ∀ k, v'.ownBlock = some k → ∃ c, W.heap[k]? = some (.cells c 65 (0, 0)) := fun k hk => by
    obtain ⟨inner, ho⟩ := Kd.R_own H'.row
    exact own_typed ho k hk
  have hb := H.blk
  have hb' := H'.blk
  refine H.move (o.block p H.lt.1 h1 (fun e => ?_) (fun e => ?_)) (o.block M H.lt.2.1 (fun e => ?_) h2 (fun e => ?_)) fun k hk => o.block k (H.lt.2.2 k hk) (fun e => ?_) (fun e => ?_) (fun e => h3 k hk e.symm)
  · rw [e, hM'] at hb; cases hb
  · obtain ⟨c, hc⟩ := hv' p e.symm
    rw [hb] at hc
    injection hc with hc
    injection hc with _ hc
    exact absurd hc (by decide)
  · rw [e, hb'] at hM; cases hM
  · obtain ⟨c, hc⟩ := hv' M e.symm
    rw [hM] at hc; cases hc
  · obtain ⟨c, hc⟩ := hv k hk
    rw [e, hb'] at hc
    injection hc with hc
    injection hc with _ hc
    exact absurd hc (by decide)
  · obtain ⟨c, hc⟩ := hv k hk
    rw [e, hM'] at hc; cases hc
theorem DkAt.cells {W : World} {p M n kept : Nat} {v : Value} {h : Hist} (H : DkAt W p M v n h kept) : W.cell? ⟨p, 0, none⟩ = some (.int .i64 (n : Int)) ∧ W.cell? ⟨p, 1, none⟩ = some (.map (some M)) ∧ W.cell? ⟨p, 2, none⟩ = some v :=
  ⟨blk_cell H.blk 0, blk_cell H.blk 1, blk_cell H.blk 2⟩
theorem dptr_eq {W : World} (g : Nat) : (binOp .eql 23 (.pointer (some ⟨g, 0, none⟩)) (.pointer none)).run Tryd.prog W = .ok (.bool false) W := by go_simp
theorem map_nil {W : World} (m : Option Nat) : (binOp .eql 55 (.map m) (.map none)).run Tryd.prog W = .ok (.bool m.isNone) W := run_eql_map_nil_sl (P := Tryd.prog) W 55 _ _ m Tryd.underlying55
def chk (n : Nat) (i : Int) : Int := if 0 ≤ i ∧ i < n then 0 else 2
set_option maxHeartbeats 1000000 in
set_option maxRecDepth 100000 in
theorem check_calls {W : World} {p M n kept : Nat} {v : Value} {h : Hist} (H : DkAt W p M v n h kept) (i : Int) :
    Calls Tryd.prog 28 #[.pointer (some ⟨p, 0, none⟩), .int .i64 i] W fun e w' => e = .returned (.int .i64 (chk n i)) ∧ Below W.heap.size W w' := by
  obtain ⟨c0, c1, _⟩ := H.cells
  have hmn : ∀ V : World, (binOp .eql 55 (.map (some M)) (.map none)).run Tryd.prog V = .ok (.bool false) V := fun V => map_nil (W := V) (some M)
  clear H
  unfold chk
  by_cases h0 : i < 0
  · have hd := decide_eq_true h0
    rw [if_neg (by omega)]
    go_enter Tryd.func28, Tryd.ntmps28
    go_wp2
    go_ret
    exact ⟨rfl, Below.refl _ _⟩
  · have hd := decide_eq_false h0
    by_cases h1 : (n : Int) ≤ i
    · have hd2 := decide_eq_true h1
      rw [if_neg (by omega)]
      go_enter Tryd.func28, Tryd.ntmps28
      go_wp2
      go_ret
      exact ⟨rfl, Below.refl _ _⟩
    · have hd2 := decide_eq_false h1
      rw [if_pos (by omega)]
      go_enter Tryd.func28, Tryd.ntmps28
      go_wp2
      go_ret
      exact ⟨rfl, Below.refl _ _⟩
theorem new_no (n : Int) (h : n < 256 ∨ 131072 < n) (W : World) :
    Calls Tryd.prog 18 #[.int .i64 n] W fun e w' => e = .returned (.tuple #[.pointer none, .int .i64 2]) ∧ Below W.heap.size W w' := by
  by_cases h1 : n < 256
  · have hd := decide_eq_true h1
    go_enter Tryd.func18, Tryd.ntmps18
    go_wp2
    go_ret2
    exact ⟨rfl, Below.refl _ _⟩
  · have hd := decide_eq_false h1
    have hd2 : decide (131072 < n) = true := decide_eq_true (by omega)
    go_enter Tryd.func18, Tryd.ntmps18
    go_wp2
    go_ret2
    exact ⟨rfl, Below.refl _ _⟩
set_option maxHeartbeats 1000000 in
set_option maxRecDepth 100000 in
theorem new_calls (n : Nat) (hn : 256 ≤ n ∧ n ≤ 131072) (W : World) :
    Calls Tryd.prog 18 #[.int .i64 (n : Int)] W fun e w' => e = .returned (.tuple #[.pointer (some ⟨W.heap.size + 1, 0, none⟩), .int .i64 0]) ∧ DkAt w' (W.heap.size + 1) W.heap.size (.slice none 0 0) n [] 0 ∧ Below W.heap.size W w' := by
  have HN := Lib.hid hn
  have d1 : decide ((n : Int) < 256) = false := decide_eq_false (by omega)
  have d2 : decide (131072 < (n : Int)) = false := decide_eq_false (by omega)
  have d1n : decide (n < 256) = false := decide_eq_false (by omega)
  have d2n : decide (131072 < n) = false := decide_eq_false (by omega)
  have hmm := @run_makeMap Tryd.prog
  clear hn
  go_enter Tryd.func18, Tryd.ntmps18
  go_wp2
  go_ret2
  have hsz : (W.alloc (.map #[] 0)).heap.size = W.heap.size + 1 := by simp
  refine ⟨by rfl, ⟨?_, ⟨.map [], ((World.ownsMap_made W _ _ _).mono (Nat.zero_le _)).alloc _, MapIs.made n⟩, Kd.R_nil _ _ _ _ _, Nat.zero_le _, Good.nil n, HN.out⟩, ?_⟩
  · have := blk_new (W.alloc (.map #[] 0)) (.cells #[.int .i64 (n : Int), .map (some W.heap.size), .slice none 0 0] 58)
    rw [hsz] at this
    exact this
  · exact below_alloc (below_alloc (Below.refl _ _) _) _
end Go.Proofs.YteooldbdilkmeaaDoor.SC

namespace Go.Proofs.YteooldbdilkmeaaDoor.SC
open Go.RowKit Go.Maps Go.Proofs.YteooldbdilkmeaaDoorW.PrintWords Go.Proofs.YteooldbdilkmeaaDoorW.PrintLast Go.Proofs.YteooldbdilkmeaaDoorW.PrintMore
set_option linter.unusedVariables false
set_option linter.unusedSimpArgs false
theorem rep_one : ∀ n : Nat, Lib.repeatL [(0 : UInt8)] n = List.replicate n 0
  | 0 => rfl
  | n + 1 => by rw [Lib.repeatL, rep_one n]; rfl
theorem rep_zeros (n : Nat) : (⟨(Lib.repeatL (⟨#[0]⟩ : ByteArray).data.toList n).toArray⟩ : ByteArray) = zeros n := ext' (rep_one n)
set_option maxHeartbeats 1000000 in
set_option maxRecDepth 100000 in
theorem full_calls (s : ByteArray) (hs : s.size ≤ 512) (W : World) : Calls Tryd.prog 29 #[.string s] W fun e w' => e = .returned (.string (full s)) ∧ Below W.heap.size W w' := by
  obtain ⟨m, hm⟩ : ∃ m, 512 - s.size = m := ⟨_, rfl⟩
  have hw : wrap64 (512 - (s.size : Int)) = (m : Int) := by unfold wrap64; omega
  have HR := Lib.hid (Tryd.strings_Repeat ⟨#[0]⟩ m W (by omega) (by have : (⟨#[0]⟩ : ByteArray).size = 1 := rfl; rw [this]; omega))
  rw [rep_zeros, show (m : Int) = 512 - (s.size : Int) by omega] at HR
  have hz : (zeros m).size = m := by rw [size_toL, zeros_toL, List.length_replicate]
  have HF : Hid (s ++ zeros m = full s) := Lib.hid (by unfold full; rw [hm])
  obtain ⟨z, hzz⟩ : ∃ z, zeros m = z := ⟨_, rfl⟩
  rw [hzz] at HR hz HF
  have hbd : ¬ (9223372036854775807 < s.size + z.size) := by omega
  clear hz hzz hs hm
  go_enter Tryd.func29, Tryd.ntmps29
  go_wp2_with fail
  refine HR.out.mono ?_; rintro e w1 ⟨rfl, hb1⟩
  have HB1 := Lib.hid hb1
  clear hb1
  go_wp2
  go_ret
  exact ⟨by rw [HF.out]; rfl, HB1.out⟩
theorem zero_held (W : World) : (zeroValue 62).run Tryd.prog W = .ok (heldV E0) W := by kernel_rfl
theorem wf_i64 {i : Nat} (h : i ≤ 9223372036854775807) : (Lit.int .i64 (i : Int)).wf = true := WalkArith.wf_i64 (by omega)
theorem keyOf_ix {i : Nat} (h : i ≤ 9223372036854775807) : keyOf Tryd.prog 3 (.int .i64 (i : Int)) = some (kx i) := keyOf_int_mk Tryd.underlying3 (wf_i64 h)
theorem look_have {W : World} {M n : Nat} {D : DataW Unit} {f : Nat → ByteArray} (ho : W.ownsMap Tryd.prog 3 heldE M n D) (hm : MapIs D n f) (i : Nat) (hi : i ≤ 9223372036854775807) :
    (Instr.lookup 55 (.map (some M)) (.int .i64 (i : Int)) false).run Tryd.prog W = .ok (.agg #[.string (f i)]) W := by
  obtain ⟨v, ps, hr, hv⟩ := ho.lookup (z := heldV E0) (zd := heldD E0) (zp := []) (kl := kx i) (int_keyed Tryd.underlying3) Tryd.underlying55 (zero_held W) (heldE_mk E0) (keyOf_ix hi)
  rw [hm.at_ i] at hv
  obtain ⟨s, rfl, e⟩ := heldE_inv hv
  have e3 := heldD_inj (congrArg Prod.fst e)
  exact hr.trans (congrArg (fun x => Result.ok (heldV x) W) e3.symm)
theorem field_held (s : ByteArray) (V : World) : (Instr.field 62 (.agg #[.string s]) 0).run Tryd.prog V = .ok (.string s) V := by kernel_rfl
theorem DkAt.look {W : World} {p M n kept : Nat} {v : Value} {h : Hist} (H : DkAt W p M v n h kept) (i : Nat) (hi : i < n) :
    (Instr.lookup 55 (.map (some M)) (.int .i64 (i : Int)) false).run Tryd.prog W = .ok (.agg #[.string (cont h i)]) W := by
  obtain ⟨D, ho, hm⟩ := H.map
  exact look_have ho hm i (by have := H.nn; omega)
set_option maxHeartbeats 1000000 in
set_option maxRecDepth 100000 in
theorem read_calls {W : World} {p M n kept : Nat} {v : Value} {h : Hist} (H : DkAt W p M v n h kept) (i : Nat) (hi : i < n) :
    Calls Tryd.prog 10 #[.pointer (some ⟨p, 0, none⟩), .int .i64 (i : Int)] W fun e w' => e = .returned (.tuple #[.string (full (cont h i)), .int .i64 0]) ∧ Below W.heap.size W w' := by
  have HD := Lib.hid H
  have HC := Lib.hid (check_calls H (i : Int))
  rw [show chk n (i : Int) = 0 from if_pos (by omega)] at HC
  have HS := Lib.hid (fun V => full_calls (cont h i) (cont_slim h H.good i).1 V)
  have Hi := Lib.hid hi
  clear H hi
  go_enter Tryd.func10, Tryd.ntmps10
  go_wp2_with fail
  refine HC.out.mono ?_; rintro e w1 ⟨rfl, hb1⟩
  have HD1 := Lib.hid (HD.out.below hb1 (Nat.le_refl _))
  have HB1 := Lib.hid hb1
  obtain ⟨c0, c1, c2⟩ := HD1.out.cells
  have hlk := HD1.out.look i Hi.out
  have hfd := field_held
  obtain ⟨s, hs⟩ : ∃ s, cont h i = s := ⟨_, rfl⟩
  rw [hs] at hlk HS
  have Hs := Lib.hid hs
  clear hb1 hs
  go_wp2_with fail
  refine (HS.out _).mono ?_; rintro e w2 ⟨rfl, hb2⟩
  have HB2 := Lib.hid (below_step HB1.out hb2)
  clear hb2 c0 c1 c2 hlk
  go_wp2
  go_ret2
  exact ⟨by rw [Hs.out]; rfl, HB2.out⟩
set_option maxHeartbeats 1000000 in
set_option maxRecDepth 100000 in
theorem read_no {W : World} {p M n kept : Nat} {v : Value} {h : Hist} (H : DkAt W p M v n h kept) (i : Int) (hi : ¬ (0 ≤ i ∧ i < n)) :
    Calls Tryd.prog 10 #[.pointer (some ⟨p, 0, none⟩), .int .i64 i] W fun e w' => e = .returned (.tuple #[.string E0, .int .i64 2]) ∧ Below W.heap.size W w' := by
  have HC := Lib.hid (check_calls H i)
  rw [show chk n i = 2 from if_neg hi] at HC
  clear H hi
  go_enter Tryd.func10, Tryd.ntmps10
  go_wp2_with fail
  refine HC.out.mono ?_; rintro e w1 ⟨rfl, hb1⟩
  go_wp2
  go_ret2
  exact ⟨rfl, hb1⟩
set_option maxRecDepth 100000 in
theorem len_calls {W : World} {p M n kept : Nat} {v : Value} {h : Hist} (H : DkAt W p M v n h kept) :
    Calls Tryd.prog 27 #[.pointer (some ⟨p, 0, none⟩)] W fun e w' => e = .returned (.int .i64 (n : Int)) ∧ Below W.heap.size W w' := by
  obtain ⟨c0, c1, c2⟩ := H.cells
  clear H
  go_enter Tryd.func27, Tryd.ntmps27
  go_wp2
  go_ret
  exact ⟨rfl, Below.refl _ _⟩
theorem DkAt.log_slice {W : World} {p M n kept : Nat} {v : Value} {h : Hist} (H : DkAt W p M v n h kept) : ∃ A c, v = .slice A (h.length - kept) c := by
  obtain ⟨A, c, e⟩ := Kd.R_slice H.row
  rw [logOf_length] at e
  exact ⟨A, c, e⟩
set_option maxRecDepth 100000 in
theorem writes_calls {W : World} {p M n kept : Nat} {v : Value} {h : Hist} (H : DkAt W p M v n h kept) :
    Calls Tryd.prog 13 #[.pointer (some ⟨p, 0, none⟩)] W fun e w' => e = .returned (.int .i64 ((h.length - kept : Nat) : Int)) ∧ Below W.heap.size W w' := by
  obtain ⟨c0, c1, c2⟩ := H.cells
  obtain ⟨A, c, rfl⟩ := H.log_slice
  obtain ⟨m, hm⟩ : ∃ m, h.length - kept = m := ⟨_, rfl⟩
  rw [hm] at c2
  rw [hm]
  clear H hm
  go_enter Tryd.func13, Tryd.ntmps13
  go_wp2
  go_ret
  exact ⟨rfl, Below.refl _ _⟩
set_option maxHeartbeats 1000000 in
set_option maxRecDepth 100000 in
theorem mark_calls {W : World} {p M n kept : Nat} {v : Value} {h : Hist} (H : DkAt W p M v n h kept) :
    Calls Tryd.prog 21 #[.pointer (some ⟨p, 0, none⟩)] W fun e w' => e = .returned (.tuple #[]) ∧ DkAt w' p M (.slice none 0 0) n h h.length ∧ OnlyD p M v W w' := by
  have HD := Lib.hid H
  obtain ⟨c0, c1, c2⟩ := H.cells
  have b0 := blk_frozen H.blk
  have HK := Lib.hid (blk_put H.blk 2 (.slice none 0 0) (cs' := #[.int .i64 (n : Int), .map (some M), .slice none 0 0]) rfl)
  have HO : Hid (OnlyD p M v W (W.setCell ⟨p, 2, none⟩ (.slice none 0 0))) := Lib.hid (OnlyD.grown (r := some p) ⟨rfl, rfl, rfl, by simp [World.setCell], fun k hk hne => Below.heap_setCell W _ _ k (fun e => hne (by rw [show k = p from e]))⟩ (fun k hk => .inl (by injection hk with hk; exact hk.symm)))
  have HM : Hid ((W.setCell ⟨p, 2, none⟩ (.slice none 0 0)).heap[M]? = W.heap[M]?) := Lib.hid (Below.heap_setCell W _ _ M (fun e => by
    have e : M = p := e
    obtain ⟨es, ck, hM⟩ := H.map_blk
    have := H.blk
    rw [e, this] at hM; cases hM))
  clear H
  go_enter Tryd.func21, Tryd.ntmps21
  go_wp2
  go_end0
  obtain ⟨D, ho, hd⟩ := HD.out.map
  refine ⟨rfl, ⟨HK.out, ⟨D, ownsMap_move ho HM.out, hd⟩, ?_, Nat.le_refl _, HD.out.good, HD.out.nn⟩, HO.out⟩
  rw [logOf_none]
  exact Kd.R_nil _ _ _ _ _
end Go.Proofs.YteooldbdilkmeaaDoor.SC

namespace Go.Proofs.YteooldbdilkmeaaDoor.SC
open Go.RowKit Go.Maps Go.Proofs.YteooldbdilkmeaaDoorW.PrintWords Go.Proofs.YteooldbdilkmeaaDoorW.PrintLast Go.Proofs.YteooldbdilkmeaaDoorW.PrintMore
set_option linter.unusedVariables false
set_option linter.unusedSimpArgs false
theorem str_empty (s : ByteArray) : s.toList.isEmpty = decide (s = E0) := by
  rw [ByteArray.toList_eq]
  by_cases e : s = E0
  · rw [decide_eq_true e, e]; rfl
  · rw [decide_eq_false e, List.isEmpty_eq_false_iff]
    exact fun h => e (ext' h)
set_option maxHeartbeats 1000000 in
set_option maxRecDepth 100000 in
theorem put_calls {W : World} {p M n : Nat} {v : Value} {D : DataW Unit} {f : Nat → ByteArray} (hb : W.heap[p]? = some (.cells #[.int .i64 (n : Int), .map (some M), v] 58 (0, 0))) (ho : W.ownsMap Tryd.prog 3 heldE M n D) (hm : MapIs D n f) (hn : n ≤ 131072) (i : Nat) (hi : i < n) (s : ByteArray) :
    Calls Tryd.prog 32 #[.pointer (some ⟨p, 0, none⟩), .int .i64 (i : Int), .string s] W fun e w' => e = .returned (.tuple #[]) ∧ (∃ D', w'.ownsMap Tryd.prog 3 heldE M n D' ∧ MapIs D' n (upd f i s)) ∧ W.grownBy w' (some M) := by
  have c1 : W.cell? ⟨p, 1, none⟩ = some (.map (some M)) := blk_cell hb 1
  have hse := str_empty s
  by_cases hs : s = E0
  · obtain ⟨w2, hrun, ho2, ht⟩ := ho.drop (int_keyed Tryd.underlying3) Tryd.underlying55 (keyOf_ix (i := i) (by omega)) 0
    have HE : Hid (∃ D', w2.ownsMap Tryd.prog 3 heldE M n D' ∧ MapIs D' n (upd f i s)) := Lib.hid ⟨_, ho2, by rw [hs]; exact hm.del i⟩
    have HG := Lib.hid ht.grown
    rw [decide_eq_true hs] at hse
    clear ho2 ht hs hb ho hm hi hn
    go_enter Tryd.func32, Tryd.ntmps32
    go_wp2
    (try simp only [Exit.inBlock, Exit.then]); refine bodyPost_ret (results_none rfl _ _ _) rfl ?_
    exact ⟨rfl, HE.out, HG.out⟩
  · obtain ⟨w2, hrun, ho2, hg⟩ := ho.update (val := .agg #[.string s]) (int_keyed Tryd.underlying3) Tryd.underlying55 (by unfold maxLen; omega) (keyOf_ix (i := i) (by omega)) (heldE_mk s)
    have HE : Hid (∃ D', w2.ownsMap Tryd.prog 3 heldE M n D' ∧ MapIs D' n (upd f i s)) := Lib.hid ⟨_, own_norm Tryd.underlying3 ho2 (hm.put hi hs), hm.put hi hs⟩
    have HG := Lib.hid hg
    rw [decide_eq_false hs] at hse
    clear ho2 hg hs hb ho hm hi hn
    go_enter Tryd.func32, Tryd.ntmps32
    go_wp2
    go_end0
    exact ⟨rfl, HE.out, HG.out⟩
end Go.Proofs.YteooldbdilkmeaaDoor.SC

namespace Go.Proofs.YteooldbdilkmeaaDoor.SC
open Go.RowKit Go.Maps Go.Proofs.YteooldbdilkmeaaDoorW.PrintWords Go.Proofs.YteooldbdilkmeaaDoorW.PrintLast Go.Proofs.YteooldbdilkmeaaDoorW.PrintMore
set_option linter.unusedVariables false
set_option linter.unusedSimpArgs false
theorem infoWr : (Tryd.prog.info? 65).map (fun i => (i.zero, i.size, i.bytes)) = some (some (.agg #[.int .i64 0, .string ByteArray.empty, .string ByteArray.empty]), 3, 40) := by kernel_rfl
theorem DkAt.alloc {W : World} {p M n kept : Nat} {v : Value} {h : Hist} (H : DkAt W p M v n h kept) (o : Obj) : DkAt (W.alloc o) p M v n h kept := H.below (below_alloc (Below.refl W.heap.size W) o) (Nat.le_refl _)
theorem grown_cells {w w9 : World} {p M n kept : Nat} {v : Value} {h : Hist} (H : DkAt w p M v n h kept) (hg : w.grownBy w9 v.ownBlock) :
    w9.heap[p]? = some (.cells #[.int .i64 (n : Int), .map (some M), v] 58 (0, 0)) ∧ (w9.heap[M]? = w.heap[M]?) ∧ ∃ D, w9.ownsMap Tryd.prog 3 heldE M n D ∧ MapIs D n (cont h) := by
  obtain ⟨es, ck, hM⟩ := H.map_blk
  have hpv : some p ≠ v.ownBlock := fun e => by
    obtain ⟨inner, ho⟩ := Kd.R_own H.row
    obtain ⟨c, hc⟩ := own_typed ho p e.symm
    rw [H.blk] at hc
    injection hc with hc
    injection hc with _ hc
    exact absurd hc (by decide)
  have hMv : some M ≠ v.ownBlock := fun e => by
    obtain ⟨inner, ho⟩ := Kd.R_own H.row
    obtain ⟨c, hc⟩ := own_typed ho M e.symm
    rw [hM] at hc; cases hc
  have hM9 := (hg.block M H.lt.2.1 hMv)
  obtain ⟨D, ho, hm⟩ := H.map
  exact ⟨(hg.block p H.lt.1 hpv).trans H.blk, hM9, D, ownsMap_move ho hM9, hm⟩
theorem after_append {w w9 : World} {p M n kept : Nat} {v v9 : Value} {h : Hist} {xs : List Wr} (H : DkAt w p M v n h kept) (hg : w.grownBy w9 v.ownBlock) (hr : kW.R 65 w9 0 (fun _ => True) v9 xs) :
    (w9.setCell ⟨p, 2, none⟩ v9).heap[p]? = some (.cells #[.int .i64 (n : Int), .map (some M), v9] 58 (0, 0)) ∧ (∃ D, (w9.setCell ⟨p, 2, none⟩ v9).ownsMap Tryd.prog 3 heldE M n D ∧ MapIs D n (cont h)) ∧ kW.R 65 (w9.setCell ⟨p, 2, none⟩ v9) 0 (fun _ => True) v9 xs ∧ OnlyD p M v w (w9.setCell ⟨p, 2, none⟩ v9) := by
  obtain ⟨es, ck, hM⟩ := H.map_blk
  have hpv : some p ≠ v.ownBlock := fun e => by
    obtain ⟨inner, ho⟩ := Kd.R_own H.row
    obtain ⟨c, hc⟩ := own_typed ho p e.symm
    rw [H.blk] at hc
    injection hc with hc
    injection hc with _ hc
    exact absurd hc (by decide)
  have hMv : some M ≠ v.ownBlock := fun e => by
    obtain ⟨inner, ho⟩ := Kd.R_own H.row
    obtain ⟨c, hc⟩ := own_typed ho M e.symm
    rw [hM] at hc; cases hc
  have hpM : M ≠ p := fun e => by have := H.blk; rw [← e, hM] at this; cases this
  have h9 := (hg.block p H.lt.1 hpv).trans H.blk
  have hM9 := (hg.block M H.lt.2.1 hMv)
  have hs : (w9.setCell ⟨p, 2, none⟩ v9).heap[M]? = w9.heap[M]? := Below.heap_setCell w9 _ _ M hpM
  obtain ⟨D, ho, hm⟩ := H.map
  refine ⟨blk_put h9 2 v9 rfl, ⟨D, ownsMap_move (ownsMap_move ho hM9) hs, hm⟩, kW_move hr fun k hk => Below.heap_setCell w9 _ _ k (fun e => ?_), ?_⟩
  · obtain ⟨inner, ho⟩ := Kd.R_own hr
    obtain ⟨c, hc⟩ := own_typed ho k hk
    rw [show k = p from e, h9] at hc
    injection hc with hc
    injection hc with _ hc
    exact absurd hc (by decide)
  · exact (OnlyD.grown hg (fun k hk => .inr (.inr (.inl hk.symm)))).trans (OnlyD.grown (r := some p) ⟨rfl, rfl, rfl, by simp [World.setCell], fun k hk hne => Below.heap_setCell w9 _ _ k (fun e => hne (by rw [show k = p from e]))⟩ (fun k hk => .inl (by injection hk with hk; exact hk.symm))) (Moved.refl _ _)
theorem trimr_calls (s : ByteArray) (hs : s.size ≤ 9223372036854775807) (W : World) : Calls Tryd.prog 31 #[.string s, .string ⟨#[0]⟩] W fun e w' => e = .returned (.string (trim s)) ∧ Below W.heap.size W w' :=
  (Tryd.strings_TrimRight_one s 0 (by decide) W hs).mono fun e w' ⟨h1, h2⟩ => ⟨h1, by rw [h2]; exact Below.refl _ _⟩
set_option maxRecDepth 100000 in
theorem clone_calls (s : ByteArray) (hs : s.size ≤ 281474976710656) (W : World) : Calls Tryd.prog 30 #[.string s] W fun e w' => e = .returned (.string s) ∧ Below W.heap.size W w' := by
  have HC := Lib.hid (Tryd.stringslite_Clone s W hs)
  clear hs
  go_enter Tryd.func30, Tryd.ntmps30
  go_wp2_with fail
  refine HC.out.mono ?_; rintro e w1 ⟨rfl, hb1⟩
  have HB := Lib.hid hb1
  clear hb1
  go_wp2
  go_ret
  exact ⟨rfl, HB.out⟩
set_option maxHeartbeats 1000000 in
set_option maxRecDepth 100000 in
theorem write_no {W : World} {p M n kept : Nat} {v : Value} {h : Hist} (H : DkAt W p M v n h kept) (i : Int) (hi : ¬ (0 ≤ i ∧ i < n)) (s : ByteArray) :
    Calls Tryd.prog 12 #[.pointer (some ⟨p, 0, none⟩), .int .i64 i, .string s] W fun e w' => e = .returned (.int .i64 2) ∧ Below W.heap.size W w' := by
  have HC := Lib.hid (check_calls H i)
  rw [show chk n i = 2 from if_neg hi] at HC
  clear H hi
  go_enter Tryd.func12, Tryd.ntmps12
  go_wp2_with fail
  refine HC.out.mono ?_; rintro e w1 ⟨rfl, hb1⟩
  go_wp2
  go_ret
  exact ⟨rfl, hb1⟩
set_option maxHeartbeats 1000000 in
set_option maxRecDepth 100000 in
theorem write_long {W : World} {p M n kept : Nat} {v : Value} {h : Hist} (H : DkAt W p M v n h kept) (i : Int) (hi : 0 ≤ i ∧ i < n) (s : ByteArray) (hs : 512 < s.size) :
    Calls Tryd.prog 12 #[.pointer (some ⟨p, 0, none⟩), .int .i64 i, .string s] W fun e w' => e = .returned (.int .i64 3) ∧ Below W.heap.size W w' := by
  have HC := Lib.hid (check_calls H i)
  rw [show chk n i = 0 from if_pos hi] at HC
  have hd : decide ((512 : Int) < (s.size : Int)) = true := decide_eq_true (by omega)
  have hdn : decide (512 < s.size) = true := decide_eq_true hs
  clear H hi hs
  go_enter Tryd.func12, Tryd.ntmps12
  go_wp2_with fail
  refine HC.out.mono ?_; rintro e w1 ⟨rfl, hb1⟩
  have HB := Lib.hid hb1
  clear hb1
  go_wp2
  go_ret
  exact ⟨rfl, HB.out⟩
set_option maxHeartbeats 2000000 in
set_option maxRecDepth 100000 in
theorem write_calls {W : World} {p M n kept : Nat} {v : Value} {h : Hist} (H : DkAt W p M v n h kept) (i : Nat) (hi : i < n) (s : ByteArray) (hs : s.size ≤ 512) (hl : h.length ≤ 1000000) :
    Calls Tryd.prog 12 #[.pointer (some ⟨p, 0, none⟩), .int .i64 (i : Int), .string s] W fun e w' => e = .returned (.int .i64 0) ∧ (∃ v', DkAt w' p M v' n (h ++ [(i, trim s)]) kept ∧ Moved W v v') ∧ OnlyD p M v W w' := by
  have HD := Lib.hid H
  have HC := Lib.hid (check_calls H (i : Int))
  rw [show chk n (i : Int) = 0 from if_pos (by omega)] at HC
  have HT := Lib.hid (fun V => trimr_calls s (by omega) V)
  have HCl := Lib.hid (fun V => clone_calls (trim s) (by have := trim_size s; omega) V)
  have HSl := Lib.hid (trim_slim s hs)
  have hd : decide ((512 : Int) < (s.size : Int)) = false := decide_eq_false (by omega)
  have hdn : decide (512 < s.size) = false := decide_eq_false (by omega)
  have Hi := Lib.hid hi
  have Hl := Lib.hid hl
  obtain ⟨t, ht⟩ : ∃ t, trim s = t := ⟨_, rfl⟩
  rw [ht] at HT HCl HSl
  have Ht := Lib.hid ht
  clear H hi hs ht hl
  go_enter Tryd.func12, Tryd.ntmps12
  go_wp2_with fail
  refine HC.out.mono ?_; rintro e w1 ⟨rfl, hb1⟩
  have HD1 := Lib.hid (HD.out.below hb1 (Nat.le_refl _))
  have HB1 := Lib.hid hb1
  clear hb1
  go_wp2_with fail
  refine (HT.out _).mono ?_; rintro e w2 ⟨rfl, hb2⟩
  have HD2 := Lib.hid (HD1.out.below hb2 (Nat.le_refl _))
  have HB2 := Lib.hid (below_step HB1.out hb2)
  clear hb2
  go_wp2_with fail
  refine (HCl.out _).mono ?_; rintro e w3 ⟨rfl, hb3⟩
  have HD3 := Lib.hid (HD2.out.below hb3 (Nat.le_refl _))
  have HB3 := Lib.hid (below_step HB2.out hb3)
  obtain ⟨c0, c1, c2⟩ := HD3.out.cells
  have hlk := HD3.out.look i Hi.out
  have hfd := field_held
  have b0 := blk_frozen HD3.out.blk
  clear hb3 hd hdn
  have HCs : Hid (∀ (w9 : World) (v9 : Value), w3.drew.grownBy w9 v.ownBlock → kW.R 65 w9 0 (fun _ => True) v9 (logOf h kept ++ [((i : Int), t, cont h i)]) → (w9.cell? ⟨p, 1, none⟩ = some (.map (some M)) ∧ w9.cell? ⟨p, 2, none⟩ = some v) ∧ w9.frozen? ⟨p, 2, none⟩ = false ∧ (Instr.lookup 55 (.map (some M)) (.int .i64 (i : Int)) false).run Tryd.prog w9 = .ok (.agg #[.string (cont h i)]) w9) := Lib.hid (fun w9 v9 hg hr => by
    obtain ⟨h1, h2, h3⟩ := grown_cells HD3.out.drew hg
    obtain ⟨D, ho, hm⟩ := h3
    exact ⟨⟨blk_cell h1 1, blk_cell h1 2⟩, blk_frozen h1 2, look_have ho hm i (by have := Hi.out; have := HD3.out.nn; omega)⟩)
  obtain ⟨lg, hlg⟩ : ∃ x, logOf h kept ++ [((i : Int), t, cont h i)] = x := ⟨_, rfl⟩
  have Hlg := Lib.hid hlg
  rw [hlg] at HCs
  clear hlg
  go_upto_region 7 with fail
  refine start_ (n := 21) (S := fun w' => w'.cell? ⟨p, 1, none⟩ = some (.map (some M)) ∧ w'.cell? ⟨p, 2, none⟩ = some v ∧ (Instr.lookup 55 (.map (some M)) (.int .i64 (i : Int)) false).run Tryd.prog w' = .ok (.agg #[.string (cont h i)]) w') (ds := [20]) #[false, false, false, false, false, false, false, false, false, false, false, false, false, false, false, false, false, false, false, false, false] (by kernel_rfl) rfl rfl ⟨HD3.out.drew.cells.2.1, HD3.out.drew.cells.2.2, HD3.out.drew.look i Hi.out⟩ (fun hHeld => ?_)
  refine pure_ (i := 0) (N := some 21) (v := ?_) (a' := ?_) #[true, false, false, false, false, false, false, false, false, false, false, false, false, false, false, false, false, false, false, false, false] rfl rfl (by kernel_rfl) (fun _ _ _ h => h) (Or.inl ⟨by rfl, ?_⟩) ?_ ?_
  rotate_left
  · intro w'
    go_simp
    with_reducible rfl
  rotate_left
  · simp only [Act.put, List.setIfInBounds_toArray, List.set_cons_zero, List.set_cons_succ, i64_w, i32_w]
    rfl
  refine pure_ (i := 1) (N := some 22) (v := ?_) (a' := ?_) #[true, true, false, false, false, false, false, false, false, false, false, false, false, false, false, false, false, false, false, false, false] rfl rfl (by kernel_rfl) (fun _ _ _ h => h) (Or.inl ⟨by rfl, ?_⟩) ?_ ?_
  rotate_left
  · intro w'
    go_simp
    with_reducible rfl
  rotate_left
  · simp only [Act.put, List.setIfInBounds_toArray, List.set_cons_zero, List.set_cons_succ, i64_w, i32_w]
    rfl
  refine pure_ (i := 2) (N := some 23) (v := ?_) (a' := ?_) #[true, true, true, false, false, false, false, false, false, false, false, false, false, false, false, false, false, false, false, false, false] rfl rfl (by kernel_rfl) (fun _ _ _ h => h) (Or.inl ⟨by rfl, ?_⟩) ?_ ?_
  rotate_left
  · intro w'
    go_simp
    with_reducible rfl
  rotate_left
  · simp only [Act.put, List.setIfInBounds_toArray, List.set_cons_zero, List.set_cons_succ, i64_w, i32_w]
    rfl
  refine pure_ (i := 3) (N := some 24) (v := ?_) (a' := ?_) #[true, true, true, true, false, false, false, false, false, false, false, false, false, false, false, false, false, false, false, false, false] rfl rfl (by kernel_rfl) (fun _ _ _ h => h) (Or.inl ⟨by rfl, ?_⟩) ?_ ?_
  rotate_left
  · intro w'
    go_simp
    with_reducible rfl
  rotate_left
  · simp only [Act.put, List.setIfInBounds_toArray, List.set_cons_zero, List.set_cons_succ, i64_w, i32_w]
    rfl
  refine pure_ (i := 5) (N := some 26) (v := ?_) (a' := ?_) #[true, true, true, true, false, true, false, false, false, false, false, false, false, false, false, false, false, false, false, false, false] rfl rfl (by kernel_rfl) (fun _ _ _ h => h) (Or.inl ⟨by rfl, ?_⟩) ?_ ?_
  rotate_left
  · intro w'
    go_simp
    with_reducible rfl
  rotate_left
  · simp only [Act.put, List.setIfInBounds_toArray, List.set_cons_zero, List.set_cons_succ, i64_w, i32_w]
    rfl
  refine pure_ (i := 6) (N := some 27) (v := ?_) (a' := ?_) #[true, true, true, true, false, true, true, false, false, false, false, false, false, false, false, false, false, false, false, false, false] rfl rfl (by kernel_rfl) (fun _ _ _ h => h) (Or.inl ⟨by rfl, ?_⟩) ?_ ?_
  rotate_left
  · intro w'
    go_simp
    with_reducible rfl
  rotate_left
  · simp only [Act.put, List.setIfInBounds_toArray, List.set_cons_zero, List.set_cons_succ, i64_w, i32_w]
    rfl
  refine pure_ (i := 7) (N := some 28) (v := ?_) (a' := ?_) #[true, true, true, true, false, true, true, true, false, false, false, false, false, false, false, false, false, false, false, false, false] rfl rfl (by kernel_rfl) (fun _ _ _ h => h) (Or.inl ⟨by rfl, ?_⟩) ?_ ?_
  rotate_left
  · intro w'
    go_simp
    with_reducible rfl
  rotate_left
  · simp only [Act.put, List.setIfInBounds_toArray, List.set_cons_zero, List.set_cons_succ, i64_w, i32_w]
    rfl
  refine pure_ (i := 8) (N := some 29) (v := ?_) (a' := ?_) #[true, true, true, true, false, true, true, true, true, false, false, false, false, false, false, false, false, false, false, false, false] rfl rfl (by kernel_rfl) (fun _ _ _ h => h) (Or.inl ⟨by rfl, ?_⟩) ?_ ?_
  rotate_left
  · intro w'
    go_simp
    with_reducible rfl
  rotate_left
  · simp only [Act.put, List.setIfInBounds_toArray, List.set_cons_zero, List.set_cons_succ, i64_w, i32_w]
    rfl
  refine pure_ (i := 9) (N := some 30) (v := ?_) (a' := ?_) #[true, true, true, true, false, true, true, true, true, true, false, false, false, false, false, false, false, false, false, false, false] rfl rfl (by kernel_rfl) (fun _ _ _ h => h) (Or.inl ⟨by rfl, ?_⟩) ?_ ?_
  rotate_left
  · intro w'
    go_simp
    with_reducible rfl
  rotate_left
  · simp only [Act.put, List.setIfInBounds_toArray, List.set_cons_zero, List.set_cons_succ, i64_w, i32_w]
    rfl
  refine pure_ (i := 10) (N := some 31) (v := ?_) (a' := ?_) #[true, true, true, true, false, true, true, true, true, true, true, false, false, false, false, false, false, false, false, false, false] rfl rfl (by kernel_rfl) (fun _ _ _ h => h) (Or.inl ⟨by rfl, ?_⟩) ?_ ?_
  rotate_left
  · intro w'
    go_simp
    with_reducible rfl
  rotate_left
  · simp only [Act.put, List.setIfInBounds_toArray, List.set_cons_zero, List.set_cons_succ, i64_w, i32_w]
    rfl
  refine pure_ (i := 12) (N := some 33) (v := ?_) (a' := ?_) #[true, true, true, true, false, true, true, true, true, true, true, false, true, false, false, false, false, false, false, false, false] rfl rfl (by kernel_rfl) (fun _ _ _ h => h) (Or.inl ⟨by rfl, ?_⟩) ?_ ?_
  rotate_left
  · intro w'
    go_simp
    with_reducible rfl
  rotate_left
  · simp only [Act.put, List.setIfInBounds_toArray, List.set_cons_zero, List.set_cons_succ, i64_w, i32_w]
    rfl
  refine take_ (i := 4) (N := some 25) (v := ?_) (a' := ?_) #[true, true, true, true, true, true, true, true, true, true, true, false, true, false, false, false, false, false, false, false, false] rfl rfl (by kernel_rfl) (fun _ _ _ h => h) (Or.inl ⟨by rfl, ?_⟩) hHeld ?_ ?_
  rotate_left
  · rintro w' ⟨s0, s1, s2⟩
    go_simp
    with_reducible rfl
  rotate_left
  · simp only [Act.put, List.setIfInBounds_toArray, List.set_cons_zero, List.set_cons_succ, i64_w, i32_w]
    rfl
  refine take_ (i := 11) (N := some 32) (v := ?_) (a' := ?_) #[true, true, true, true, true, true, true, true, true, true, true, true, true, false, false, false, false, false, false, false, false] rfl rfl (by kernel_rfl) (fun _ _ _ h => h) (Or.inl ⟨by rfl, ?_⟩) hHeld ?_ ?_
  rotate_left
  · rintro w' ⟨s0, s1, s2⟩
    go_simp
    with_reducible rfl
  rotate_left
  · simp only [Act.put, List.setIfInBounds_toArray, List.set_cons_zero, List.set_cons_succ, i64_w, i32_w]
    rfl
  refine take_ (i := 13) (N := some 34) (v := ?_) (a' := ?_) #[true, true, true, true, true, true, true, true, true, true, true, true, true, true, false, false, false, false, false, false, false] rfl rfl (by kernel_rfl) (fun _ _ _ h => h) (Or.inl ⟨by rfl, ?_⟩) hHeld ?_ ?_
  rotate_left
  · rintro w' ⟨s0, s1, s2⟩
    go_simp
    with_reducible rfl
  rotate_left
  · simp only [Act.put, List.setIfInBounds_toArray, List.set_cons_zero, List.set_cons_succ, i64_w, i32_w]
    rfl
  refine pure_ (i := 14) (N := some 35) (v := ?_) (a' := ?_) #[true, true, true, true, true, true, true, true, true, true, true, true, true, true, true, false, false, false, false, false, false] rfl rfl (by kernel_rfl) (fun _ _ _ h => h) (Or.inl ⟨by rfl, ?_⟩) ?_ ?_
  rotate_left
  · intro w'
    go_simp
    with_reducible rfl
  rotate_left
  · simp only [Act.put, List.setIfInBounds_toArray, List.set_cons_zero, List.set_cons_succ, i64_w, i32_w]
    rfl
  refine pure_ (i := 15) (N := some 36) (v := ?_) (a' := ?_) #[true, true, true, true, true, true, true, true, true, true, true, true, true, true, true, true, false, false, false, false, false] rfl rfl (by kernel_rfl) (fun _ _ _ h => h) (Or.inl ⟨by rfl, ?_⟩) ?_ ?_
  rotate_left
  · intro w'
    go_simp
    with_reducible rfl
  rotate_left
  · simp only [Act.put, List.setIfInBounds_toArray, List.set_cons_zero, List.set_cons_succ, i64_w, i32_w]
    rfl
  refine one_ (i := 16) (N := some 37) #[true, true, true, true, true, true, true, true, true, true, true, true, true, true, true, true, true, false, false, false, false] rfl rfl (by kernel_rfl) (by decide) (fun K hK => ?_)
  refine value_ (w1 := ?_) (v := ?_) (by rfl) rfl ?_ ?_
  rotate_left 2
  · go_simp
    constructor
    · rfl
    · rfl
  refine hK.out _ _ ⟨(HD3.out.drew.alloc _).cells.2.1, (HD3.out.drew.alloc _).cells.2.2, (HD3.out.drew.alloc _).look i Hi.out⟩ (fun hHeld => ?_)
  clear hK K
  refine norm_ (a' := ?_) ?_ ?_
  rotate_left
  · show Act.put _ (some 37) _ = _
    simp only [Act.put, List.setIfInBounds_toArray, List.set_cons_zero, List.set_cons_succ, i64_w, i32_w]
    rfl
  refine one_ (i := 17) (N := some 38) #[true, true, true, true, true, true, true, true, true, true, true, true, true, true, true, true, true, true, false, false, false] rfl rfl (by kernel_rfl) (by decide) (fun K hK => ?_)
  refine Kd.R_append_step kW (w0 := w3.drew) 0 (by rfl) (.tmp 25) (.tmp 37) 56 65 (.agg #[.int .i64 0, .string ByteArray.empty, .string ByteArray.empty]) 40 rfl Tryd.underlying56 infoWr (by rfl) (by decide) (by decide) v (logOf h kept) ((i : Int), t, cont h i) (wCells ((i : Int), t, cont h i)) (fun _ => True) (fun _ => False) (by rfl) (by rfl) (kW_mk _ _ _ _) (fun _ h => h.elim) (fun _ _ => trivial) HD3.out.drew.row (Below.refl _ _) (Nat.zero_le _) (by rw [logOf_length]; have := Hl.out; omega) ?_
  intro v9 w9 hr9 hb9 hg9 hat9
  rw [Hlg.out] at hr9
  have t9 := (HCs.out w9 v9 hg9 hr9).1
  have f9 := (HCs.out w9 v9 hg9 hr9).2.1
  have l9 := (HCs.out w9 v9 hg9 hr9).2.2
  obtain ⟨A9, c9, rfl⟩ := Kd.R_slice hr9
  refine hK.out _ _ ⟨t9.1, t9.2, l9⟩ (fun hHeld => ?_)
  clear hK K
  refine norm_ (a' := ?_) ?_ ?_
  rotate_left
  · show Act.put _ (some 38) _ = _
    simp only [Act.put, List.setIfInBounds_toArray, List.set_cons_zero, List.set_cons_succ, i64_w, i32_w]
    rfl
  refine pure_ (i := 18) (N := some 39) (v := ?_) (a' := ?_) #[true, true, true, true, true, true, true, true, true, true, true, true, true, true, true, true, true, true, true, false, false] rfl rfl (by kernel_rfl) (fun _ _ _ h => h) (Or.inl ⟨by rfl, ?_⟩) ?_ ?_
  rotate_left
  · intro w'
    go_simp
    with_reducible rfl
  rotate_left
  · simp only [Act.put, List.setIfInBounds_toArray, List.set_cons_zero, List.set_cons_succ, i64_w, i32_w]
    rfl
  refine pure_ (i := 19) (N := some 40) (v := ?_) (a' := ?_) #[true, true, true, true, true, true, true, true, true, true, true, true, true, true, true, true, true, true, true, true, false] rfl rfl (by kernel_rfl) (fun _ _ _ h => h) (Or.inl ⟨by rfl, ?_⟩) ?_ ?_
  rotate_left
  · intro w'
    go_simp
    with_reducible rfl
  rotate_left
  · simp only [Act.put, List.setIfInBounds_toArray, List.set_cons_zero, List.set_cons_succ, i64_w, i32_w]
    rfl
  refine last_ (i := 20) (N := none) #[true, true, true, true, true, true, true, true, true, true, true, true, true, true, true, true, true, true, true, true, true] rfl rfl (by kernel_rfl) (by decide) (fun K hK => ?_)
  refine skip_ (w1 := ?_) (by rfl) rfl ?_ ?_
  rotate_left
  · go_simp
    rfl
  refine hK.out _ _ ?_
  clear hK K
  refine done_ (by kernel_rfl) ?_
  clear hHeld hfd
  obtain ⟨v9, hv9⟩ : ∃ x, Value.slice A9 lg.length c9 = x := ⟨_, rfl⟩
  rw [hv9] at hr9 hat9
  rw [hv9]
  clear hv9
  obtain ⟨HK, HM9, HR9, HO⟩ := after_append HD3.out.drew hg9 hr9
  have HKh := Lib.hid HK
  have HRh := Lib.hid HR9
  have HOh : Hid (OnlyD p M v W (w9.setCell ⟨p, 2, none⟩ v9)) := Lib.hid ((OnlyD.of (below_drew HB3.out) (Nat.le_refl _)).trans HO (Moved.refl _ _))
  have HMv : Hid (Moved W v v9) := Lib.hid (by
    rcases hat9 with e | ⟨k, e, hk⟩
    · exact .inl e
    · exact .inr fun q hq => by rw [e] at hq; injection hq with hq; have := HB3.out.size; simp only [World.size_drew] at hk; omega)
  obtain ⟨D9, ho9, hm9⟩ := HM9
  have HKM : Hid (∃ es ck, (w9.setCell ⟨p, 2, none⟩ v9).heap[M]? = some (.map es ck)) := Lib.hid (by
    obtain ⟨es, ck, hb, _⟩ := ho9
    exact ⟨es, ck, hb⟩)
  have HP := Lib.hid (put_calls HK ho9 hm9 HD3.out.nn.2 i Hi.out t)
  have HRow : Hid (logOf (h ++ [(i, t)]) kept = lg) := Lib.hid (by rw [logOf_snoc h kept HD3.out.le i t, Hlg.out])
  obtain ⟨W9, hW9⟩ : ∃ V, w9.setCell ⟨p, 2, none⟩ v9 = V := ⟨_, rfl⟩
  rw [hW9] at HKh HRh HOh HP HKM
  have HD4 := Lib.hid HD3.out
  clear hr9 hb9 hg9 hat9 HK HR9 HO ho9 hm9 c0 c1 c2 hlk b0 t9 l9 f9
  rw [hW9]
  clear hW9
  go_wp2_with fail
  refine HP.out.mono ?_; rintro e w10 ⟨rfl, ⟨D10, ho10, hm10⟩, hg10⟩
  have HE : Hid (DkAt w10 p M v9 n (h ++ [(i, t)]) kept ∧ OnlyD p M v W w10) := Lib.hid (by
    have hpM : p ≠ M := fun e => by
      obtain ⟨es, ck, hM⟩ := HD4.out.map_blk
      have := HD4.out.blk
      rw [e, hM] at this; cases this
    have hMt : ∃ es ck, W9.heap[M]? = some (.map es ck) := HKM.out
    refine ⟨⟨(hg10.block p (blk_lt HKh.out) (fun e => hpM (by injection e))).trans HKh.out, ⟨D10, ho10, by rw [cont_snoc]; exact hm10⟩, ?_, by rw [List.length_append]; have := HD4.out.le; omega, HD4.out.good.snoc Hi.out HSl.out, HD4.out.nn⟩, ?_⟩
    · rw [HRow.out]
      refine kW_move HRh.out fun k hk => hg10.block k (Kd.R_lt HRh.out k hk) (fun e => ?_)
      obtain ⟨inner, ho⟩ := Kd.R_own HRh.out
      obtain ⟨c, hc⟩ := own_typed ho k hk
      obtain ⟨es, ck, hM⟩ := hMt
      rw [show k = M by injection e, hM] at hc; cases hc
    · exact HOh.out.trans (OnlyD.grown (v := v) hg10 (fun k hk => .inr (.inl (by injection hk with hk; exact hk.symm)))) (Moved.refl _ _))
  clear ho10 hm10 hg10
  go_wp2
  go_ret
  rw [Ht.out]
  exact ⟨rfl, ⟨v9, HE.out.1, HMv.out⟩, HE.out.2⟩
end Go.Proofs.YteooldbdilkmeaaDoor.SC

namespace Go.Proofs.YteooldbdilkmeaaDoor.SC
open Go.RowKit Go.Maps Go.Proofs.YteooldbdilkmeaaDoorW.PrintWords Go.Proofs.YteooldbdilkmeaaDoorW.PrintLast Go.Proofs.YteooldbdilkmeaaDoorW.PrintMore
set_option linter.unusedVariables false
set_option linter.unusedSimpArgs false
theorem infoWa : (Tryd.prog.info? 31).map (fun i => (i.zero, i.size, i.bytes)) = some (some (.agg #[.int .i64 0, .string ByteArray.empty]), 2, 24) := by kernel_rfl
def logA (h : Hist) : List Wa := h.map fun p => ((p.1 : Int), full p.2)
theorem logA_length (h : Hist) : (logA h).length = h.length := by simp [logA]
theorem logA_take (h : Hist) (kept j : Nat) (hj : kept + j < h.length) : logA ((h.drop kept).take (j + 1)) = logA ((h.drop kept).take j) ++ [(((h.getD (kept + j) (0, E0)).1 : Int), full (h.getD (kept + j) (0, E0)).2)] := by
  unfold logA
  rw [List.take_add_one, List.getElem?_drop, List.getElem?_eq_getElem hj, List.map_append, List.getD_eq_getElem?_getD, List.getElem?_eq_getElem hj]
  rfl
theorem add_mid3 (g j q : Nat) : (⟨g, 0, none⟩ : Addr).add (j * kW.sz + q) = ⟨g, j * 3 + q, none⟩ := by
  rw [Addr.add_mid, Nat.zero_add]
  rfl
theorem dk_row_ne {W : World} {p M n kept base : Nat} {v u : Value} {h : Hist} {xs : List Wa} {ok : Nat → Prop} (H : DkAt W p M v n h kept) (hr : kA.R 31 W base ok u xs) : some p ≠ u.ownBlock ∧ some M ≠ u.ownBlock ∧ ∀ k, v.ownBlock = some k → some k ≠ u.ownBlock := by
  obtain ⟨inner, ho⟩ := Kd.R_own hr
  refine ⟨fun e => ?_, fun e => ?_, fun k hk e => ?_⟩
  · obtain ⟨c, hc⟩ := own_typed ho p e.symm
    rw [H.blk] at hc
    injection hc with hc
    injection hc with _ hc
    exact absurd hc (by decide)
  · obtain ⟨c, hc⟩ := own_typed ho M e.symm
    obtain ⟨es, ck, hM⟩ := H.map_blk
    rw [hM] at hc; cases hc
  · obtain ⟨c, hc⟩ := own_typed ho k e.symm
    obtain ⟨inner2, ho2⟩ := Kd.R_own H.row
    obtain ⟨c2, hc2⟩ := own_typed ho2 k hk
    rw [hc] at hc2
    injection hc2 with hc2
    injection hc2 with _ hc2
    exact absurd hc2 (by decide)
theorem DkAt.at_ {W : World} {p M n kept : Nat} {v : Value} {h : Hist} (H : DkAt W p M v n h kept) (j : Nat) (hj : kept + j < h.length) :
    ∃ g c, v = .slice (some ⟨g, 0, none⟩) (h.length - kept) c ∧ W.cell? ⟨g, j * 3, none⟩ = some (.int .i64 ((h.getD (kept + j) (0, E0)).1 : Int)) ∧ W.cell? ⟨g, j * 3 + 1, none⟩ = some (.string (h.getD (kept + j) (0, E0)).2) ∧ W.cell? ⟨g, j * 3 + 2, none⟩ = some (.string (cont (h.take (kept + j)) (h.getD (kept + j) (0, E0)).1)) := by
  have hl := logOf_length h kept
  obtain ⟨g, c, hv, _⟩ := Kd.R_form H.row (by omega)
  obtain ⟨A, c2, hv2, _, hC⟩ := Kd.R_reads H.row
  rw [hv] at hv2
  injection hv2 with hA
  subst hA
  obtain ⟨ad, cs, had, hcl, hK, hcell⟩ := Kd.C_get hC (0, E0, E0) (j : Int) (by omega) (by omega)
  injection had with had
  subst had
  obtain rfl := kW_open hK
  have he : (logOf h kept).getD (j : Int).toNat (0, E0, E0) = entry h (kept + j) := by
    rw [Int.toNat_natCast, List.getD_eq_getElem?_getD]
    unfold logOf
    rw [List.getElem?_map, List.getElem?_range (by omega)]
    rfl
  rw [he, Int.toNat_natCast] at hcell
  refine ⟨g, c, by rw [hv, hl], ?_, ?_, ?_⟩
  · have := hcell 0 _ rfl
    unfold entry at this
    rwa [add_mid3] at this
  · have := hcell 1 _ rfl
    unfold entry at this
    rwa [add_mid3] at this
  · have := hcell 2 _ rfl
    unfold entry at this
    rwa [add_mid3] at this
set_option maxHeartbeats 4000000 in
set_option maxRecDepth 100000 in
theorem log_calls {W : World} {p M n kept : Nat} {v : Value} {h : Hist} (H : DkAt W p M v n h kept) (hl : h.length ≤ 1000000) :
    Calls Tryd.prog 15 #[.pointer (some ⟨p, 0, none⟩)] W fun e w' => ∃ u, e = .returned u ∧ kA.R 31 w' W.heap.size (fun _ => True) u (logA (h.drop kept)) ∧ Below W.heap.size W w' := by
  have HD := Lib.hid H
  have Hl := Lib.hid hl
  obtain ⟨m, hm⟩ : ∃ m, h.length - kept = m := ⟨_, rfl⟩
  have Hm := Lib.hid hm
  obtain ⟨c0, c1, c2⟩ := H.cells
  obtain ⟨A0, cap0, hv⟩ := H.log_slice
  rw [hm] at hv
  subst hv
  clear H hl hm
  go_enter Tryd.func15, Tryd.ntmps15
  go_wp2_with fail
  clear c0 c1 c2
  go_loopw [13, 3] (fun iv av V => ∃ j : Nat, j ≤ m ∧ iv = .int .i64 (j : Int) ∧ Aside0 (DkAt V p M (.slice A0 m cap0) n h kept) ∧ Aside0 (kA.R 31 V W.heap.size (fun _ => True) av (logA ((h.drop kept).take j))) ∧ Aside0 (Below W.heap.size W V)) (fun iv _ _ => m - (ixOf iv).toNat)
  case atStart => exact ⟨0, Nat.zero_le _, rfl, ⟨HD.out⟩, ⟨Kd.R_nil _ _ _ _ _⟩, ⟨Below.refl _ _⟩⟩
  case round =>
    obtain ⟨j, hj, rfl, ⟨hdk⟩, ⟨hr⟩, ⟨hb⟩⟩ := hrel
    have HDj := Lib.hid hdk
    have HRj := Lib.hid hr
    have HBj := Lib.hid hb
    clear hdk hr hb HD
    by_cases hlt : j < m
    · have hd := decide_eq_true (show (j : Int) < (m : Int) by omega)
      have hdn := decide_eq_true hlt
      have HK : Hid (kept + j < h.length) := Lib.hid (by have := Hm.out; omega)
      obtain ⟨g, cc, hA, q0, q1, q2⟩ := HDj.out.at_ j HK.out
      have hA0 := (Value.slice.inj hA).1
      clear hA
      subst hA0
      have hsl : ((h.getD (kept + j) (0, E0)).2).size ≤ 512 := (HDj.out.good _ (by rw [List.getD_eq_getElem?_getD, List.getElem?_eq_getElem HK.out]; exact List.getElem_mem _)).2.1
      have HN := Lib.hid (logA_take h kept j HK.out)
      obtain ⟨a, ha⟩ : ∃ a : Nat, (h.getD (kept + j) (0, E0)).1 = a := ⟨_, rfl⟩
      obtain ⟨s, hs⟩ : ∃ s : ByteArray, (h.getD (kept + j) (0, E0)).2 = s := ⟨_, rfl⟩
      obtain ⟨z, hz⟩ : ∃ z : ByteArray, cont (h.take (kept + j)) a = z := ⟨_, rfl⟩
      rw [ha] at q0 q2 HN
      rw [hs] at q1 hsl HN
      rw [hz] at q2
      have HF := Lib.hid (fun V => full_calls s hsl V)
      have p1 : (0 ≤ (j : Int)) = True := eq_true (by omega)
      have p2 : ((j : Int) < (m : Int)) = True := eq_true (by omega)
      have hnx : wrap64 ((j : Int) + 1) = (j : Int) + 1 := by have := Hm.out; have := Hl.out; clear hd p1 p2; unfold wrap64; omega
      have Hlt := Lib.hid hlt
      have Hnx := Lib.hid hnx
      clear ha hs hz hsl hlt hj hnx
      go_upto_region 6 with fail
      go_wp2_with fail
      obtain ⟨b, hb⟩ : ∃ b, wr.heap.size = b := ⟨_, rfl⟩
      have HCb : Hid ((wr.alloc (.cells #[.int .i64 (a : Int), .string s, .string z] 65)).heap[b]? = some (.cells #[.int .i64 (a : Int), .string s, .string z] 65 (0, 0))) := Lib.hid (by rw [← hb]; exact blk_new wr _)
      have HD2 := Lib.hid (HDj.out.alloc (.cells #[.int .i64 (a : Int), .string s, .string z] 65))
      have HR2 := Lib.hid (Kd.R_alloc HRj.out (.cells #[.int .i64 (a : Int), .string s, .string z] 65))
      have HB2 := Lib.hid (below_alloc HBj.out (.cells #[.int .i64 (a : Int), .string s, .string z] 65))
      have Hb := Lib.hid hb
      rw [hb]
      obtain ⟨W2, hW2⟩ : ∃ V, wr.alloc (.cells #[.int .i64 (a : Int), .string s, .string z] 65) = V := ⟨_, rfl⟩
      rw [hW2] at HCb HD2 HR2 HB2
      rw [hW2]
      clear hW2 hb q0 q1 q2
      refine start_ (n := 12) (S := fun w' => w'.cell? ⟨b, 0, none⟩ = some (.int .i64 (a : Int)) ∧ w'.cell? ⟨b, 1, none⟩ = some (.string s)) (ds := []) #[false, false, false, false, false, false, false, false, false, false, false, false] (by kernel_rfl) rfl rfl ⟨blk_cell HCb.out 0, blk_cell HCb.out 1⟩ (fun hHeld => ?_)
      refine pure_ (i := 0) (N := some 17) (v := ?_) (a' := ?_) #[true, false, false, false, false, false, false, false, false, false, false, false] rfl rfl (by kernel_rfl) (fun _ _ _ h => h) (Or.inl ⟨by rfl, ?_⟩) ?_ ?_
      rotate_left
      · intro w'
        go_simp
        with_reducible rfl
      rotate_left
      · simp only [Act.put, List.setIfInBounds_toArray, List.set_cons_zero, List.set_cons_succ, i64_w, i32_w]
        rfl
      refine pure_ (i := 1) (N := some 18) (v := ?_) (a' := ?_) #[true, true, false, false, false, false, false, false, false, false, false, false] rfl rfl (by kernel_rfl) (fun _ _ _ h => h) (Or.inl ⟨by rfl, ?_⟩) ?_ ?_
      rotate_left
      · intro w'
        go_simp
        with_reducible rfl
      rotate_left
      · simp only [Act.put, List.setIfInBounds_toArray, List.set_cons_zero, List.set_cons_succ, i64_w, i32_w]
        rfl
      refine pure_ (i := 2) (N := some 19) (v := ?_) (a' := ?_) #[true, true, true, false, false, false, false, false, false, false, false, false] rfl rfl (by kernel_rfl) (fun _ _ _ h => h) (Or.inl ⟨by rfl, ?_⟩) ?_ ?_
      rotate_left
      · intro w'
        go_simp
        with_reducible rfl
      rotate_left
      · simp only [Act.put, List.setIfInBounds_toArray, List.set_cons_zero, List.set_cons_succ, i64_w, i32_w]
        rfl
      refine pure_ (i := 4) (N := some 21) (v := ?_) (a' := ?_) #[true, true, true, false, true, false, false, false, false, false, false, false] rfl rfl (by kernel_rfl) (fun _ _ _ h => h) (Or.inl ⟨by rfl, ?_⟩) ?_ ?_
      rotate_left
      · intro w'
        go_simp
        with_reducible rfl
      rotate_left
      · simp only [Act.put, List.setIfInBounds_toArray, List.set_cons_zero, List.set_cons_succ, i64_w, i32_w]
        rfl
      refine pure_ (i := 5) (N := some 22) (v := ?_) (a' := ?_) #[true, true, true, false, true, true, false, false, false, false, false, false] rfl rfl (by kernel_rfl) (fun _ _ _ h => h) (Or.inl ⟨by rfl, ?_⟩) ?_ ?_
      rotate_left
      · intro w'
        go_simp
        with_reducible rfl
      rotate_left
      · simp only [Act.put, List.setIfInBounds_toArray, List.set_cons_zero, List.set_cons_succ, i64_w, i32_w]
        rfl
      refine take_ (i := 3) (N := some 20) (v := ?_) (a' := ?_) #[true, true, true, true, true, true, false, false, false, false, false, false] rfl rfl (by kernel_rfl) (fun _ _ _ h => h) (Or.inl ⟨by rfl, ?_⟩) hHeld ?_ ?_
      rotate_left
      · rintro w' ⟨s0, s1⟩
        go_simp
        with_reducible rfl
      rotate_left
      · simp only [Act.put, List.setIfInBounds_toArray, List.set_cons_zero, List.set_cons_succ, i64_w, i32_w]
        rfl
      refine take_ (i := 6) (N := some 23) (v := ?_) (a' := ?_) #[true, true, true, true, true, true, true, false, false, false, false, false] rfl rfl (by kernel_rfl) (fun _ _ _ h => h) (Or.inl ⟨by rfl, ?_⟩) hHeld ?_ ?_
      rotate_left
      · rintro w' ⟨s0, s1⟩
        go_simp
        with_reducible rfl
      rotate_left
      · simp only [Act.put, List.setIfInBounds_toArray, List.set_cons_zero, List.set_cons_succ, i64_w, i32_w]
        rfl
      refine one_ (i := 7) (N := some 24) #[true, true, true, true, true, true, true, true, false, false, false, false] rfl rfl (by kernel_rfl) (by decide) (fun K hK => ?_)
      refine goes_ Tryd.func29 (by kernel_rfl) rfl #[.string s] (by rfl) rfl rfl (by simp only [List.map_toArray, List.map_cons, List.map_nil]; rfl) ?_
      with_reducible refine (HF.out _).mono ?_
      rintro e w4 ⟨rfl, hb4⟩
      refine ⟨_, rfl, ?_⟩
      have HD4 := Lib.hid (HD2.out.drew.below hb4 (Nat.le_refl _))
      have HR4 := Lib.hid (Kd.R_below (Kd.R_drew HR2.out) hb4)
      have HB4 := Lib.hid (below_step (below_drew HB2.out) hb4)
      have HC4 := Lib.hid (blk_below (w := W2.drew) HCb.out hb4)
      clear hb4
      refine hK.out _ _ ⟨blk_cell HC4.out 0, blk_cell HC4.out 1⟩ (fun hHeld => ?_)
      clear hK K
      refine norm_ (a' := ?_) ?_ ?_
      rotate_left
      · show Act.put _ (some 24) _ = _
        simp only [Act.put, List.setIfInBounds_toArray, List.set_cons_zero, List.set_cons_succ, i64_w, i32_w]
        rfl
      refine pure_ (i := 8) (N := some 25) (v := ?_) (a' := ?_) #[true, true, true, true, true, true, true, true, true, false, false, false] rfl rfl (by kernel_rfl) (fun _ _ _ h => h) (Or.inl ⟨by rfl, ?_⟩) ?_ ?_
      rotate_left
      · intro w'
        go_simp
        with_reducible rfl
      rotate_left
      · simp only [Act.put, List.setIfInBounds_toArray, List.set_cons_zero, List.set_cons_succ, i64_w, i32_w]
        rfl
      refine one_ (i := 9) (N := some 26) #[true, true, true, true, true, true, true, true, true, true, false, false] rfl rfl (by kernel_rfl) (by decide) (fun K hK => ?_)
      refine value_ (w1 := ?_) (v := ?_) (by rfl) rfl ?_ ?_
      rotate_left 2
      · go_simp
        constructor
        · rfl
        · rfl
      refine hK.out _ _ ⟨blk_cell (blk_below HC4.out (below_alloc (Below.refl _ _) _)) 0, blk_cell (blk_below HC4.out (below_alloc (Below.refl _ _) _)) 1⟩ (fun hHeld => ?_)
      clear hK K
      refine norm_ (a' := ?_) ?_ ?_
      rotate_left
      · show Act.put _ (some 26) _ = _
        simp only [Act.put, List.setIfInBounds_toArray, List.set_cons_zero, List.set_cons_succ, i64_w, i32_w]
        rfl
      refine one_ (i := 10) (N := some 27) #[true, true, true, true, true, true, true, true, true, true, true, false] rfl rfl (by kernel_rfl) (by decide) (fun K hK => ?_)
      refine Kd.R_append_step kA (w0 := W) W.heap.size (by rfl) (.tmp 17) (.tmp 26) 22 31 (.agg #[.int .i64 0, .string ByteArray.empty]) 24 rfl Tryd.underlying22 infoWa (by rfl) (by decide) (by decide) u3 (logA ((h.drop kept).take j)) ((a : Int), full s) (aCells ((a : Int), full s)) (fun _ => True) (fun _ => False) (by rfl) (by rfl) (kA_mk _ _ _ _) (fun _ h => h.elim) (fun _ _ => trivial) HR4.out HB4.out HB4.out.size (by rw [logA_length, List.length_take, List.length_drop]; have := Hl.out; omega) ?_
      intro v9 w9 hr9 hb9 hg9 hat9
      have HR9 := Lib.hid hr9
      have HB9 := Lib.hid hb9
      have HD9 : Hid (DkAt w9 p M (.slice (some ⟨g, 0, none⟩) m cap0) n h kept) := Lib.hid (by have hne := dk_row_ne HD4.out HR4.out; exact HD4.out.move (hg9.block p HD4.out.lt.1 hne.1) (hg9.block M HD4.out.lt.2.1 hne.2.1) (fun k hk => hg9.block k (HD4.out.lt.2.2 k hk) (hne.2.2 k hk)))
      have t9 : w9.heap[b]? = some (.cells #[.int .i64 (a : Int), .string s, .string z] 65 (0, 0)) := (hg9.block b (blk_lt HC4.out) (Kd.R_ne HR4.out HC4.out (by decide))).trans HC4.out
      clear hr9 hb9 hg9 hat9
      refine hK.out _ _ ⟨blk_cell t9 0, blk_cell t9 1⟩ (fun hHeld => ?_)
      clear hK K
      refine norm_ (a' := ?_) ?_ ?_
      rotate_left
      · show Act.put _ (some 27) _ = _
        simp only [Act.put, List.setIfInBounds_toArray, List.set_cons_zero, List.set_cons_succ, i64_w, i32_w]
        rfl
      refine pure_ (i := 11) (N := some 3) (v := ?_) (a' := ?_) #[true, true, true, true, true, true, true, true, true, true, true, true] rfl rfl (by kernel_rfl) (fun _ _ _ h => h) (Or.inl ⟨by rfl, ?_⟩) ?_ ?_
      rotate_left
      · intro w'
        go_simp
        with_reducible rfl
      rotate_left
      · simp only [Act.put, List.setIfInBounds_toArray, List.set_cons_zero, List.set_cons_succ, i64_w, i32_w]
        rfl
      refine done_ (by kernel_rfl) ?_
      have hnx := Hnx.out
      clear hHeld
      go_wp2
      go_roundw
      case rel => exact ⟨j + 1, Hlt.out, by first | rfl | (rw [hnx]; rfl), ⟨HD9.out⟩, ⟨by rw [HN.out]; exact HR9.out⟩, ⟨HB9.out⟩⟩
      case measure => have h1 := Hlt.out; first | (rw [hnx]; simp [ixOf, Go.RowKit.intOf]; omega) | (simp [ixOf, Go.RowKit.intOf]; omega)
    · obtain rfl : j = m := by omega
      have hd := decide_eq_false (show ¬ (j : Int) < (j : Int) by omega)
      have HE : Hid ((h.drop kept).take j = h.drop kept) := Lib.hid (List.take_of_length_le (by rw [List.length_drop]; have := Hm.out; omega))
      clear hlt hj
      go_wp2
      go_ret
      exact ⟨_, rfl, by rw [← HE.out]; exact HRj.out, HBj.out⟩
end Go.Proofs.YteooldbdilkmeaaDoor.SC

namespace Go.Proofs.YteooldbdilkmeaaDoor.SC
open Go.RowKit Go.Maps Go.Proofs.YteooldbdilkmeaaDoorW.PrintWords Go.Proofs.YteooldbdilkmeaaDoorW.PrintLast Go.Proofs.YteooldbdilkmeaaDoorW.PrintMore
set_option linter.unusedVariables false
set_option linter.unusedSimpArgs false
theorem mclone_calls {W : World} {M n : Nat} {D : DataW Unit} (ho : W.ownsMap Tryd.prog 3 heldE M n D) :
    Calls Tryd.prog 33 #[.map (some M)] W fun e w' => e = .returned (.map (some W.heap.size)) ∧ w'.ownsMap Tryd.prog 3 heldE W.heap.size n D ∧ Below W.heap.size W w' := by
  obtain ⟨es, clock, hb, F, hs, hD⟩ := ho
  refine (Tryd.maps_Clone_any M es clock W hb).mono fun e w' ⟨h1, h2⟩ => ⟨h1, ?_, ?_⟩
  · subst h2
    exact ⟨es, clock, (MapKept.heap_alloc W _).1, F, hs, hD⟩
  · subst h2
    exact below_alloc (Below.refl _ _) _
set_option maxHeartbeats 1000000 in
set_option maxRecDepth 100000 in
theorem cut_no {W : World} {p M n kept : Nat} {v : Value} {h : Hist} (H : DkAt W p M v n h kept) (k : Int) (hk : k < 0 ∨ ((h.length - kept : Nat) : Int) < k) :
    Calls Tryd.prog 16 #[.pointer (some ⟨p, 0, none⟩), .int .i64 k] W fun e w' => e = .returned (.tuple #[.pointer none, .int .i64 2]) ∧ Below W.heap.size W w' := by
  have HD := Lib.hid H
  have HC := Lib.hid (check_calls H 0)
  rw [show chk n 0 = 0 from if_pos (by have := H.nn; omega)] at HC
  obtain ⟨A0, cap0, hv⟩ := H.log_slice
  obtain ⟨m, hm⟩ : ∃ m, h.length - kept = m := ⟨_, rfl⟩
  rw [hm] at hv hk
  subst hv
  clear H hm
  go_enter Tryd.func16, Tryd.ntmps16
  go_wp2_with fail
  refine HC.out.mono ?_; rintro e w1 ⟨rfl, hb1⟩
  have HD1 := Lib.hid (HD.out.below hb1 (Nat.le_refl _))
  have HB1 := Lib.hid hb1
  obtain ⟨c0, c1, c2⟩ := HD1.out.cells
  clear hb1
  by_cases h0 : k < 0
  · have hd := decide_eq_true h0
    clear hk h0
    go_wp2
    go_ret2
    exact ⟨rfl, HB1.out⟩
  · have hd := decide_eq_false h0
    have hd2 : decide ((m : Int) < k) = true := decide_eq_true (by omega)
    clear hk h0
    go_wp2
    go_ret2
    exact ⟨rfl, HB1.out⟩
set_option maxHeartbeats 4000000 in
set_option maxRecDepth 100000 in
theorem cut_calls {W : World} {p M n kept : Nat} {v : Value} {h : Hist} (H : DkAt W p M v n h kept) (hl : h.length ≤ 1000000) (k : Nat) (hk : kept + k ≤ h.length) :
    Calls Tryd.prog 16 #[.pointer (some ⟨p, 0, none⟩), .int .i64 (k : Int)] W fun e w' => ∃ pc Mc, e = .returned (.tuple #[.pointer (some ⟨pc, 0, none⟩), .int .i64 0]) ∧ DkAt w' pc Mc (.slice none 0 0) n (h.take (kept + k)) (kept + k) ∧ W.heap.size ≤ pc ∧ W.heap.size ≤ Mc ∧ Below W.heap.size W w' := by
  have HD := Lib.hid H
  have HC := Lib.hid (check_calls H 0)
  rw [show chk n 0 = 0 from if_pos (by have := H.nn; omega)] at HC
  obtain ⟨A0, cap0, hv⟩ := H.log_slice
  obtain ⟨m, hm⟩ : ∃ m, h.length - kept = m := ⟨_, rfl⟩
  have Hm := Lib.hid hm
  have Hl := Lib.hid hl
  have Hk := Lib.hid hk
  have HNN := Lib.hid H.nn
  have HMm : Hid (kept + m = h.length) := Lib.hid (by have := H.le; omega)
  have hd : decide ((m : Int) < (k : Int)) = false := decide_eq_false (by omega)
  have hd0 : decide ((k : Int) < 0) = false := decide_eq_false (by omega)
  have hdn : decide (m < k) = false := decide_eq_false (by omega)
  rw [hm] at hv
  subst hv
  clear H hm hl hk
  go_enter Tryd.func16, Tryd.ntmps16
  go_wp2_with fail
  refine HC.out.mono ?_; rintro e w1 ⟨rfl, hb1⟩
  have HD1 := Lib.hid (HD.out.below hb1 (Nat.le_refl _))
  have HB1 := Lib.hid hb1
  obtain ⟨c0, c1, c2⟩ := HD1.out.cells
  obtain ⟨D, ho, hmi⟩ := HD1.out.map
  have HCl := Lib.hid (mclone_calls (W := w1.drew) ho)
  have HMi := Lib.hid hmi
  clear hb1 ho hmi HC
  go_upto_region 6 with fail
  refine start_ (n := 12) (S := fun w' => w'.cell? ⟨p, 0, none⟩ = some (.int .i64 (n : Int)) ∧ w'.cell? ⟨p, 1, none⟩ = some (.map (some M))) (ds := []) #[false, false, false, false, false, false, false, false, false, false, false, false] (by kernel_rfl) rfl rfl ⟨HD1.out.drew.cells.1, HD1.out.drew.cells.2.1⟩ (fun hHeld => ?_)
  refine pure_ (i := 0) (N := some 25) (v := ?_) (a' := ?_) #[true, false, false, false, false, false, false, false, false, false, false, false] rfl rfl (by kernel_rfl) (fun _ _ _ h => h) (Or.inl ⟨by rfl, ?_⟩) ?_ ?_
  rotate_left
  · intro w'
    go_simp
    with_reducible rfl
  rotate_left
  · simp only [Act.put, List.setIfInBounds_toArray, List.set_cons_zero, List.set_cons_succ, i64_w, i32_w]
    rfl
  refine pure_ (i := 1) (N := some 26) (v := ?_) (a' := ?_) #[true, true, false, false, false, false, false, false, false, false, false, false] rfl rfl (by kernel_rfl) (fun _ _ _ h => h) (Or.inl ⟨by rfl, ?_⟩) ?_ ?_
  rotate_left
  · intro w'
    go_simp
    with_reducible rfl
  rotate_left
  · simp only [Act.put, List.setIfInBounds_toArray, List.set_cons_zero, List.set_cons_succ, i64_w, i32_w]
    rfl
  refine pure_ (i := 2) (N := some 27) (v := ?_) (a' := ?_) #[true, true, true, false, false, false, false, false, false, false, false, false] rfl rfl (by kernel_rfl) (fun _ _ _ h => h) (Or.inl ⟨by rfl, ?_⟩) ?_ ?_
  rotate_left
  · intro w'
    go_simp
    with_reducible rfl
  rotate_left
  · simp only [Act.put, List.setIfInBounds_toArray, List.set_cons_zero, List.set_cons_succ, i64_w, i32_w]
    rfl
  refine pure_ (i := 4) (N := some 29) (v := ?_) (a' := ?_) #[true, true, true, false, true, false, false, false, false, false, false, false] rfl rfl (by kernel_rfl) (fun _ _ _ h => h) (Or.inl ⟨by rfl, ?_⟩) ?_ ?_
  rotate_left
  · intro w'
    go_simp
    with_reducible rfl
  rotate_left
  · simp only [Act.put, List.setIfInBounds_toArray, List.set_cons_zero, List.set_cons_succ, i64_w, i32_w]
    rfl
  refine pure_ (i := 5) (N := some 30) (v := ?_) (a' := ?_) #[true, true, true, false, true, true, false, false, false, false, false, false] rfl rfl (by kernel_rfl) (fun _ _ _ h => h) (Or.inl ⟨by rfl, ?_⟩) ?_ ?_
  rotate_left
  · intro w'
    go_simp
    with_reducible rfl
  rotate_left
  · simp only [Act.put, List.setIfInBounds_toArray, List.set_cons_zero, List.set_cons_succ, i64_w, i32_w]
    rfl
  refine pure_ (i := 6) (N := some 31) (v := ?_) (a' := ?_) #[true, true, true, false, true, true, true, false, false, false, false, false] rfl rfl (by kernel_rfl) (fun _ _ _ h => h) (Or.inl ⟨by rfl, ?_⟩) ?_ ?_
  rotate_left
  · intro w'
    go_simp
    with_reducible rfl
  rotate_left
  · simp only [Act.put, List.setIfInBounds_toArray, List.set_cons_zero, List.set_cons_succ, i64_w, i32_w]
    rfl
  refine take_ (i := 3) (N := some 28) (v := ?_) (a' := ?_) #[true, true, true, true, true, true, true, false, false, false, false, false] rfl rfl (by kernel_rfl) (fun _ _ _ h => h) (Or.inl ⟨by rfl, ?_⟩) hHeld ?_ ?_
  rotate_left
  · rintro w' ⟨s0, s1⟩
    go_simp
    with_reducible rfl
  rotate_left
  · simp only [Act.put, List.setIfInBounds_toArray, List.set_cons_zero, List.set_cons_succ, i64_w, i32_w]
    rfl
  refine take_ (i := 7) (N := some 32) (v := ?_) (a' := ?_) #[true, true, true, true, true, true, true, true, false, false, false, false] rfl rfl (by kernel_rfl) (fun _ _ _ h => h) (Or.inl ⟨by rfl, ?_⟩) hHeld ?_ ?_
  rotate_left
  · rintro w' ⟨s0, s1⟩
    go_simp
    with_reducible rfl
  rotate_left
  · simp only [Act.put, List.setIfInBounds_toArray, List.set_cons_zero, List.set_cons_succ, i64_w, i32_w]
    rfl
  refine one_ (i := 8) (N := some 33) #[true, true, true, true, true, true, true, true, true, false, false, false] rfl rfl (by kernel_rfl) (by decide) (fun K hK => ?_)
  refine goes_ Tryd.func33 (by kernel_rfl) rfl #[.map (some M)] (by rfl) rfl rfl (by simp only [List.map_toArray, List.map_cons, List.map_nil]; rfl) ?_
  with_reducible refine (HCl.out).mono ?_
  rintro e w3 ⟨rfl, ho3, hb3⟩
  refine ⟨_, rfl, ?_⟩
  have HD3 := Lib.hid (HD1.out.drew.below hb3 (Nat.le_refl _))
  have HB3 := Lib.hid (below_step (below_drew HB1.out) hb3)
  have HO3 := Lib.hid ho3
  clear ho3 hb3
  refine hK.out _ _ ⟨HD3.out.cells.1, HD3.out.cells.2.1⟩ (fun hHeld => ?_)
  clear hK K
  refine norm_ (a' := ?_) ?_ ?_
  rotate_left
  · show Act.put _ (some 33) _ = _
    simp only [Act.put, List.setIfInBounds_toArray, List.set_cons_zero, List.set_cons_succ, i64_w, i32_w]
    rfl
  refine pure_ (i := 9) (N := some 34) (v := ?_) (a' := ?_) #[true, true, true, true, true, true, true, true, true, true, false, false] rfl rfl (by kernel_rfl) (fun _ _ _ h => h) (Or.inl ⟨by rfl, ?_⟩) ?_ ?_
  rotate_left
  · intro w'
    go_simp
    with_reducible rfl
  rotate_left
  · simp only [Act.put, List.setIfInBounds_toArray, List.set_cons_zero, List.set_cons_succ, i64_w, i32_w]
    rfl
  refine one_ (i := 10) (N := some 35) #[true, true, true, true, true, true, true, true, true, true, true, false] rfl rfl (by kernel_rfl) (by decide) (fun K hK => ?_)
  refine value_ (w1 := ?_) (v := ?_) (by rfl) rfl ?_ ?_
  rotate_left 2
  · go_simp
    constructor
    · rfl
    · rfl
  refine hK.out _ _ ⟨(HD3.out.alloc _).cells.1, (HD3.out.alloc _).cells.2.1⟩ (fun hHeld => ?_)
  clear hK K
  refine norm_ (a' := ?_) ?_ ?_
  rotate_left
  · show Act.put _ (some 35) _ = _
    simp only [Act.put, List.setIfInBounds_toArray, List.set_cons_zero, List.set_cons_succ, i64_w, i32_w]
    rfl
  refine pure_ (i := 11) (N := some 7) (v := ?_) (a' := ?_) #[true, true, true, true, true, true, true, true, true, true, true, true] rfl rfl (by kernel_rfl) (fun _ _ _ h => h) (Or.inl ⟨by rfl, ?_⟩) ?_ ?_
  rotate_left
  · intro w'
    go_simp
    with_reducible rfl
  rotate_left
  · simp only [Act.put, List.setIfInBounds_toArray, List.set_cons_zero, List.set_cons_succ, i64_w, i32_w]
    rfl
  refine done_ (by kernel_rfl) ?_
  clear hHeld
  obtain ⟨Mc, hMc⟩ : ∃ x, w1.heap.size = x := ⟨_, rfl⟩
  obtain ⟨pc, hpc⟩ : ∃ x, w3.heap.size = x := ⟨_, rfl⟩
  have hsz : w1.drew.heap.size = w1.heap.size := rfl
  have HMc : Hid (W.heap.size ≤ Mc) := Lib.hid (by rw [← hMc]; exact HB1.out.size)
  have HPc : Hid (W.heap.size ≤ pc) := Lib.hid (by rw [← hpc]; exact HB3.out.size)
  rw [hsz, hMc] at HO3
  rw [hsz, hMc, hpc]
  have HKc : Hid ((w3.alloc (.cells #[.int .i64 (n : Int), .map (some Mc), .slice none 0 0] 58)).heap[pc]? = some (.cells #[.int .i64 (n : Int), .map (some Mc), .slice none 0 0] 58 (0, 0))) := Lib.hid (by rw [← hpc]; exact blk_new w3 _)
  have HOc := Lib.hid (HO3.out.alloc (.cells #[.int .i64 (n : Int), .map (some Mc), .slice none 0 0] 58))
  have HBc := Lib.hid (below_alloc HB3.out (.cells #[.int .i64 (n : Int), .map (some Mc), .slice none 0 0] 58))
  obtain ⟨W4, hW4⟩ : ∃ V, w3.alloc (.cells #[.int .i64 (n : Int), .map (some Mc), .slice none 0 0] 58) = V := ⟨_, rfl⟩
  rw [hW4] at HKc HOc HBc
  rw [hW4]
  have HD4 := Lib.hid (HD.out.below HBc.out (Nat.le_refl _))
  obtain ⟨c0, c1, c2⟩ := HD4.out.cells
  have hwm : wrap64 ((m : Int) - 1) = (m : Int) - 1 := by have := HMm.out; have := Hl.out; unfold wrap64; omega
  generalize Value.agg #[.int .i64 (n : Int), .map (some Mc), .slice none 0 0] = ua
  clear hW4 hMc hpc hsz HO3 HB3 HD3 HCl HB1 HD1
  go_wp2_with fail
  have Hwm := Lib.hid hwm
  clear c0 c1 c2 hwm
  go_loopw [8] (fun iv V => ∃ (q : Nat) (x : Int), k ≤ q ∧ q ≤ m ∧ iv = .int .i64 x ∧ x + 1 = (q : Int) ∧ Aside0 (V.heap[pc]? = some (.cells #[.int .i64 (n : Int), .map (some Mc), .slice none 0 0] 58 (0, 0))) ∧ Aside0 (∃ D, V.ownsMap Tryd.prog 3 heldE Mc n D ∧ MapIs D n (cont (h.take (kept + q)))) ∧ Aside0 (Below W.heap.size W V)) (fun iv _ => (ixOf iv + 1).toNat)
  case atStart => exact ⟨m, wrap64 ((m : Int) - 1), by have := Hk.out; have := HMm.out; omega, Nat.le_refl _, by rfl, by rw [Hwm.out]; omega, ⟨HKc.out⟩, ⟨D, HOc.out, HMi.out.congr (by rw [HMm.out, List.take_length])⟩, ⟨HBc.out⟩⟩
  case round =>
    obtain ⟨q, x, hkq, hqm, rfl, hx, ⟨hkc⟩, ⟨hoc⟩, ⟨hb⟩⟩ := hrel
    have HKj := Lib.hid hkc
    have HOj := Lib.hid hoc
    have HBj := Lib.hid hb
    clear hkc hoc hb HKc HOc HBc HD4
    have HDj := Lib.hid (HD.out.below HBj.out (Nat.le_refl _))
    by_cases hlt : k < q
    · obtain ⟨r, rfl⟩ : ∃ r, q = r + 1 := ⟨q - 1, by omega⟩
      obtain rfl : x = (r : Int) := by omega
      have hd := decide_eq_true (show (k : Int) ≤ (r : Int) by omega)
      have hdn : decide (k ≤ r) = true := decide_eq_true (by omega)
      have HK : Hid (kept + r < h.length) := Lib.hid (by have := HMm.out; omega)
      obtain ⟨g, cc, hA, q0, q1, q2⟩ := HDj.out.at_ r HK.out
      have hA0 := (Value.slice.inj hA).1
      clear hA
      subst hA0
      have HIn := Lib.hid (HD.out.good _ (by rw [List.getD_eq_getElem?_getD, List.getElem?_eq_getElem HK.out]; exact List.getElem_mem _ : h.getD (kept + r) (0, E0) ∈ h))
      have HBk : Hid (upd (cont (h.take (kept + (r + 1)))) (h.getD (kept + r) (0, E0)).1 (cont (h.take (kept + r)) (h.getD (kept + r) (0, E0)).1) = cont (h.take (kept + r))) := Lib.hid (by
        have := cont_back h (kept + r) HK.out
        rw [List.getD_eq_getElem?_getD, List.getElem?_eq_getElem HK.out]
        exact this)
      obtain ⟨a, ha⟩ : ∃ a : Nat, (h.getD (kept + r) (0, E0)).1 = a := ⟨_, rfl⟩
      obtain ⟨z, hz⟩ : ∃ z : ByteArray, cont (h.take (kept + r)) a = z := ⟨_, rfl⟩
      rw [ha] at q0 q2 HIn HBk
      rw [hz] at q2 HBk
      obtain ⟨c0, c1, c2⟩ := HDj.out.cells
      obtain ⟨Dj, hoj, hmj⟩ := HOj.out
      have HMo : Hid (∃ es ck, wr.heap[Mc]? = some (.map es ck)) := Lib.hid (by
        obtain ⟨es, ck, hb, _⟩ := hoj
        exact ⟨es, ck, hb⟩)
      have HP := Lib.hid (fun V (hbl : Below wr.heap.size wr V) => put_calls (W := V) ((hbl.block pc (blk_lt HKj.out)).trans HKj.out) (ownsMap_move hoj (hbl.block Mc hoj.lt)) hmj HNN.out.2 a HIn.out.1 z)
      have p1 : (0 ≤ (r : Int)) = True := eq_true (by omega)
      have p2 : ((r : Int) < (m : Int)) = True := eq_true (by omega)
      have hnx : wrap64 ((r : Int) - 1) = (r : Int) - 1 := by have := HMm.out; have := Hl.out; clear hd p1 p2; unfold wrap64; omega
      have Hlt : Hid (k ≤ r ∧ r ≤ m) := Lib.hid (by omega)
      have Hnx := Lib.hid hnx
      clear ha hz hlt hkq hqm hx hnx hoj hmj q1
      go_upto_region 10 with fail
      refine start_ (n := 19) (S := fun w' => w'.cell? ⟨p, 2, none⟩ = some (.slice (some ⟨g, 0, none⟩) m cap0) ∧ w'.cell? ⟨g, r * 3, none⟩ = some (.int .i64 (a : Int)) ∧ w'.cell? ⟨g, r * 3 + 2, none⟩ = some (.string z)) (ds := [18]) #[false, false, false, false, false, false, false, false, false, false, false, false, false, false, false, false, false, false, false] (by kernel_rfl) rfl rfl ⟨c2, q0, q2⟩ (fun hHeld => ?_)
      refine pure_ (i := 0) (N := some 47) (v := ?_) (a' := ?_) #[true, false, false, false, false, false, false, false, false, false, false, false, false, false, false, false, false, false, false] rfl rfl (by kernel_rfl) (fun _ _ _ h => h) (Or.inl ⟨by rfl, ?_⟩) ?_ ?_
      rotate_left
      · intro w'
        go_simp
        with_reducible rfl
      rotate_left
      · simp only [Act.put, List.setIfInBounds_toArray, List.set_cons_zero, List.set_cons_succ, i64_w, i32_w]
        rfl
      refine pure_ (i := 1) (N := some 48) (v := ?_) (a' := ?_) #[true, true, false, false, false, false, false, false, false, false, false, false, false, false, false, false, false, false, false] rfl rfl (by kernel_rfl) (fun _ _ _ h => h) (Or.inl ⟨by rfl, ?_⟩) ?_ ?_
      rotate_left
      · intro w'
        go_simp
        with_reducible rfl
      rotate_left
      · simp only [Act.put, List.setIfInBounds_toArray, List.set_cons_zero, List.set_cons_succ, i64_w, i32_w]
        rfl
      refine pure_ (i := 2) (N := some 49) (v := ?_) (a' := ?_) #[true, true, true, false, false, false, false, false, false, false, false, false, false, false, false, false, false, false, false] rfl rfl (by kernel_rfl) (fun _ _ _ h => h) (Or.inl ⟨by rfl, ?_⟩) ?_ ?_
      rotate_left
      · intro w'
        go_simp
        with_reducible rfl
      rotate_left
      · simp only [Act.put, List.setIfInBounds_toArray, List.set_cons_zero, List.set_cons_succ, i64_w, i32_w]
        rfl
      refine pure_ (i := 3) (N := some 50) (v := ?_) (a' := ?_) #[true, true, true, true, false, false, false, false, false, false, false, false, false, false, false, false, false, false, false] rfl rfl (by kernel_rfl) (fun _ _ _ h => h) (Or.inl ⟨by rfl, ?_⟩) ?_ ?_
      rotate_left
      · intro w'
        go_simp
        with_reducible rfl
      rotate_left
      · simp only [Act.put, List.setIfInBounds_toArray, List.set_cons_zero, List.set_cons_succ, i64_w, i32_w]
        rfl
      refine pure_ (i := 5) (N := some 52) (v := ?_) (a' := ?_) #[true, true, true, true, false, true, false, false, false, false, false, false, false, false, false, false, false, false, false] rfl rfl (by kernel_rfl) (fun _ _ _ h => h) (Or.inl ⟨by rfl, ?_⟩) ?_ ?_
      rotate_left
      · intro w'
        go_simp
        with_reducible rfl
      rotate_left
      · simp only [Act.put, List.setIfInBounds_toArray, List.set_cons_zero, List.set_cons_succ, i64_w, i32_w]
        rfl
      refine pure_ (i := 10) (N := some 57) (v := ?_) (a' := ?_) #[true, true, true, true, false, true, false, false, false, false, true, false, false, false, false, false, false, false, false] rfl rfl (by kernel_rfl) (fun _ _ _ h => h) (Or.inl ⟨by rfl, ?_⟩) ?_ ?_
      rotate_left
      · intro w'
        go_simp
        with_reducible rfl
      rotate_left
      · simp only [Act.put, List.setIfInBounds_toArray, List.set_cons_zero, List.set_cons_succ, i64_w, i32_w]
        rfl
      refine pure_ (i := 11) (N := some 58) (v := ?_) (a' := ?_) #[true, true, true, true, false, true, false, false, false, false, true, true, false, false, false, false, false, false, false] rfl rfl (by kernel_rfl) (fun _ _ _ h => h) (Or.inl ⟨by rfl, ?_⟩) ?_ ?_
      rotate_left
      · intro w'
        go_simp
        with_reducible rfl
      rotate_left
      · simp only [Act.put, List.setIfInBounds_toArray, List.set_cons_zero, List.set_cons_succ, i64_w, i32_w]
        rfl
      refine pure_ (i := 12) (N := some 59) (v := ?_) (a' := ?_) #[true, true, true, true, false, true, false, false, false, false, true, true, true, false, false, false, false, false, false] rfl rfl (by kernel_rfl) (fun _ _ _ h => h) (Or.inl ⟨by rfl, ?_⟩) ?_ ?_
      rotate_left
      · intro w'
        go_simp
        with_reducible rfl
      rotate_left
      · simp only [Act.put, List.setIfInBounds_toArray, List.set_cons_zero, List.set_cons_succ, i64_w, i32_w]
        rfl
      refine pure_ (i := 14) (N := some 61) (v := ?_) (a' := ?_) #[true, true, true, true, false, true, false, false, false, false, true, true, true, false, true, false, false, false, false] rfl rfl (by kernel_rfl) (fun _ _ _ h => h) (Or.inl ⟨by rfl, ?_⟩) ?_ ?_
      rotate_left
      · intro w'
        go_simp
        with_reducible rfl
      rotate_left
      · simp only [Act.put, List.setIfInBounds_toArray, List.set_cons_zero, List.set_cons_succ, i64_w, i32_w]
        rfl
      refine take_ (i := 4) (N := some 51) (v := ?_) (a' := ?_) #[true, true, true, true, true, true, false, false, false, false, true, true, true, false, true, false, false, false, false] rfl rfl (by kernel_rfl) (fun _ _ _ h => h) (Or.inl ⟨by rfl, ?_⟩) hHeld ?_ ?_
      rotate_left
      · rintro w' ⟨s0, s1, s2⟩
        go_simp
        with_reducible rfl
      rotate_left
      · simp only [Act.put, List.setIfInBounds_toArray, List.set_cons_zero, List.set_cons_succ, i64_w, i32_w]
        rfl
      refine pure_ (i := 6) (N := some 53) (v := ?_) (a' := ?_) #[true, true, true, true, true, true, true, false, false, false, true, true, true, false, true, false, false, false, false] rfl rfl (by kernel_rfl) (fun _ _ _ h => h) (Or.inl ⟨by rfl, ?_⟩) ?_ ?_
      rotate_left
      · intro w'
        go_simp
        with_reducible rfl
      rotate_left
      · simp only [Act.put, List.setIfInBounds_toArray, List.set_cons_zero, List.set_cons_succ, i64_w, i32_w]
        rfl
      refine pure_ (i := 7) (N := some 54) (v := ?_) (a' := ?_) #[true, true, true, true, true, true, true, true, false, false, true, true, true, false, true, false, false, false, false] rfl rfl (by kernel_rfl) (fun _ _ _ h => h) (Or.inl ⟨by rfl, ?_⟩) ?_ ?_
      rotate_left
      · intro w'
        go_simp
        with_reducible rfl
      rotate_left
      · simp only [Act.put, List.setIfInBounds_toArray, List.set_cons_zero, List.set_cons_succ, i64_w, i32_w]
        rfl
      refine pure_ (i := 8) (N := some 55) (v := ?_) (a' := ?_) #[true, true, true, true, true, true, true, true, true, false, true, true, true, false, true, false, false, false, false] rfl rfl (by kernel_rfl) (fun _ _ _ h => h) (Or.inl ⟨by rfl, ?_⟩) ?_ ?_
      rotate_left
      · intro w'
        go_simp
        with_reducible rfl
      rotate_left
      · simp only [Act.put, List.setIfInBounds_toArray, List.set_cons_zero, List.set_cons_succ, i64_w, i32_w]
        rfl
      refine take_ (i := 9) (N := some 56) (v := ?_) (a' := ?_) #[true, true, true, true, true, true, true, true, true, true, true, true, true, false, true, false, false, false, false] rfl rfl (by kernel_rfl) (fun _ _ _ h => h) (Or.inl ⟨by rfl, ?_⟩) hHeld ?_ ?_
      rotate_left
      · rintro w' ⟨s0, s1, s2⟩
        go_simp
        with_reducible rfl
      rotate_left
      · simp only [Act.put, List.setIfInBounds_toArray, List.set_cons_zero, List.set_cons_succ, i64_w, i32_w]
        rfl
      refine take_ (i := 13) (N := some 60) (v := ?_) (a' := ?_) #[true, true, true, true, true, true, true, true, true, true, true, true, true, true, true, false, false, false, false] rfl rfl (by kernel_rfl) (fun _ _ _ h => h) (Or.inl ⟨by rfl, ?_⟩) hHeld ?_ ?_
      rotate_left
      · rintro w' ⟨s0, s1, s2⟩
        go_simp
        with_reducible rfl
      rotate_left
      · simp only [Act.put, List.setIfInBounds_toArray, List.set_cons_zero, List.set_cons_succ, i64_w, i32_w]
        rfl
      refine pure_ (i := 15) (N := some 62) (v := ?_) (a' := ?_) #[true, true, true, true, true, true, true, true, true, true, true, true, true, true, true, true, false, false, false] rfl rfl (by kernel_rfl) (fun _ _ _ h => h) (Or.inl ⟨by rfl, ?_⟩) ?_ ?_
      rotate_left
      · intro w'
        go_simp
        with_reducible rfl
      rotate_left
      · simp only [Act.put, List.setIfInBounds_toArray, List.set_cons_zero, List.set_cons_succ, i64_w, i32_w]
        rfl
      refine pure_ (i := 16) (N := some 63) (v := ?_) (a' := ?_) #[true, true, true, true, true, true, true, true, true, true, true, true, true, true, true, true, true, false, false] rfl rfl (by kernel_rfl) (fun _ _ _ h => h) (Or.inl ⟨by rfl, ?_⟩) ?_ ?_
      rotate_left
      · intro w'
        go_simp
        with_reducible rfl
      rotate_left
      · simp only [Act.put, List.setIfInBounds_toArray, List.set_cons_zero, List.set_cons_succ, i64_w, i32_w]
        rfl
      refine take_ (i := 17) (N := some 64) (v := ?_) (a' := ?_) #[true, true, true, true, true, true, true, true, true, true, true, true, true, true, true, true, true, true, false] rfl rfl (by kernel_rfl) (fun _ _ _ h => h) (Or.inl ⟨by rfl, ?_⟩) hHeld ?_ ?_
      rotate_left
      · rintro w' ⟨s0, s1, s2⟩
        go_simp
        with_reducible rfl
      rotate_left
      · simp only [Act.put, List.setIfInBounds_toArray, List.set_cons_zero, List.set_cons_succ, i64_w, i32_w]
        rfl
      refine last_ (i := 18) (N := some 65) #[true, true, true, true, true, true, true, true, true, true, true, true, true, true, true, true, true, true, true] rfl rfl (by kernel_rfl) (by decide) (fun K hK => ?_)
      refine goes_ Tryd.func32 (by kernel_rfl) rfl #[.pointer (some ⟨pc, 0, none⟩), .int .i64 (a : Int), .string z] (by rfl) rfl rfl (by simp only [List.map_toArray, List.map_cons, List.map_nil]; rfl) ?_
      with_reducible refine (HP.out _ (below_drew (Below.refl _ _))).mono ?_
      rintro e w7 ⟨rfl, ⟨D7, ho7, hm7⟩, hg7⟩
      refine ⟨_, rfl, ?_⟩
      refine hK.out _ _ ?_
      clear hK K
      refine norm_ (a' := ?_) ?_ ?_
      rotate_left
      · show Act.put _ (some 65) _ = _
        simp only [Act.put, List.setIfInBounds_toArray, List.set_cons_zero, List.set_cons_succ, i64_w, i32_w]
        rfl
      refine done_ (by kernel_rfl) ?_
      have hnx := Hnx.out
      have HK7 : Hid (w7.heap[pc]? = some (.cells #[.int .i64 (n : Int), .map (some Mc), .slice none 0 0] 58 (0, 0))) := Lib.hid ((hg7.block pc (blk_lt HKj.out) (fun e => by
        have e2 : pc = Mc := by injection e
        obtain ⟨es, ck, hM, _⟩ := ho7
        have hM0 := HMo.out
        obtain ⟨es0, ck0, hM0⟩ := hM0
        have := HKj.out
        rw [e2, hM0] at this; cases this)).trans HKj.out)
      have HO7 : Hid (∃ D, w7.ownsMap Tryd.prog 3 heldE Mc n D ∧ MapIs D n (cont (h.take (kept + r)))) := Lib.hid ⟨D7, ho7, hm7.congr HBk.out⟩
      have HB7 : Hid (Below W.heap.size W w7) := Lib.hid ((below_drew HBj.out).grown hg7 HBj.out.size (fun k hk => by injection hk with hk; rw [← hk]; exact HMc.out))
      clear hHeld ho7 hm7 hg7 q0 q2 c0 c1 c2 p1 p2
      go_wp2
      go_roundw
      case rel => exact ⟨r, wrap64 ((r : Int) - 1), Hlt.out.1, Hlt.out.2, by first | rfl | (rw [hnx]), by rw [hnx]; omega, ⟨HK7.out⟩, ⟨HO7.out⟩, ⟨HB7.out⟩⟩
      case measure => have h1 := Hlt.out; first | (rw [hnx]; simp [ixOf, Go.RowKit.intOf]; omega) | (simp [ixOf, Go.RowKit.intOf]; omega)
    · obtain rfl : q = k := by omega
      have hd : decide ((q : Int) ≤ x) = false := decide_eq_false (by omega)
      have HF : Hid (DkAt wr pc Mc (.slice none 0 0) n (h.take (kept + q)) (kept + q)) := Lib.hid (by
        obtain ⟨Dj, hoj, hmj⟩ := HOj.out
        refine ⟨HKj.out, ⟨Dj, hoj, hmj⟩, ?_, by rw [List.length_take]; have := Hk.out; omega, HD.out.good.take _, HNN.out⟩
        have : (h.take (kept + q)).length = kept + q := by rw [List.length_take]; have := Hk.out; omega
        rw [show logOf (h.take (kept + q)) (kept + q) = [] by unfold logOf; rw [this, Nat.sub_self]; rfl]
        exact Kd.R_nil _ _ _ _ _)
      clear hlt hkq hqm hx
      go_wp2
      go_ret2
      exact ⟨pc, Mc, rfl, HF.out, HPc.out, HMc.out, HBj.out⟩
end Go.Proofs.YteooldbdilkmeaaDoor.SC

namespace Go.Proofs.YteooldbdilkmeaaDoor.SC
open Go.RowKit Go.Maps Go.Proofs.YteooldbdilkmeaaDoorW.PrintWords Go.Proofs.YteooldbdilkmeaaDoorW.PrintLast Go.Proofs.YteooldbdilkmeaaDoorW.PrintMore
set_option linter.unusedVariables false
set_option linter.unusedSimpArgs false
theorem slice_nil (W : World) (a : Option Addr) (n c n' c' : Nat) : (binOp .eql 56 (.slice a n c) (.slice none n' c')).run Tryd.prog W = .ok (.bool a.isNone) W := Lib.run_eql_slice_nil W _ _ a n c n' c' Tryd.underlying56
set_option maxHeartbeats 1000000 in
set_option maxRecDepth 100000 in
theorem sclone_calls {W : World} {v : Value} {xs : List Wr} (hr : kW.R 65 W 0 (fun _ => True) v xs) (hl : xs.length ≤ 1000000) :
    Calls Tryd.prog 34 #[v] W fun e w' => ∃ u, e = .returned u ∧ kW.R 65 w' W.heap.size (fun _ => True) u xs ∧ Below W.heap.size W w' := by
  obtain ⟨inner, ho⟩ := Kd.R_own hr
  rcases ho.2 with ⟨rfl, h0⟩ | ⟨g, cap, cur, rfl, _, _, hc, _⟩
  · obtain rfl : xs = [] := List.eq_nil_of_length_eq_zero h0
    clear hr ho h0 hl
    have hsn := slice_nil
    go_enter Tryd.func34, Tryd.ntmps34
    go_wp2
    go_ret
    exact ⟨_, rfl, Kd.R_nil _ _ _ _ _, Below.refl _ _⟩
  · obtain ⟨A, c2, hv, _, hC⟩ := Kd.R_reads hr
    have hA0 := (Value.slice.inj hv).1
    subst hA0
    have HC := Lib.hid hC
    have Hl := Lib.hid hl
    obtain ⟨m, hm⟩ : ∃ m, xs.length = m := ⟨_, rfl⟩
    have Hm := Lib.hid hm
    rw [hm] at HC
    clear hr ho hv hC hl hc
    rw [hm]
    clear hm
    have hsn := slice_nil
    go_enter Tryd.func34, Tryd.ntmps34
    have HB0 := Lib.hid (below_alloc (Below.refl W.heap.size W) (.cells #[] 65))
    have HC1 := Lib.hid (Kd.C_alloc HC.out (.cells #[] 65))
    have HR0 : Hid (kW.R 65 (W.alloc (.cells #[] 65)) W.heap.size (fun _ => True) (.slice (some ⟨W.heap.size, 0, none⟩) 0 0) []) := Lib.hid ⟨fun _ _ => trivial, [], ⟨rfl, .inr ⟨W.heap.size, 0, #[], rfl, Nat.le_refl _, blk_new W _, Nat.le_refl _, by decide, rfl, rfl⟩⟩, ⟨rfl, fun j p hj => by cases hj⟩⟩
    go_wp2_with (at_builtin; refine Kd.R_append_rows kW (Rr := kW.K (W.alloc (.cells #[] 65))) (w0 := W) W.heap.size rfl (.tmp 5) (.tmp 6) 56 65 (.agg #[.int .i64 0, .string ByteArray.empty, .string ByteArray.empty]) 40 rfl Tryd.underlying56 infoWr rfl (by decide) (by decide) (.slice (some ⟨W.heap.size, 0, none⟩) 0 0) [] xs (some ⟨g, 0, none⟩) m cap (fun _ => True) (fun _ => False) rfl rfl HR0.out HC1.out (fun x cs hk => by rw [kW_open hk]; exact kW_mk _ _ _ _) (fun _ hk => hk.elim) (fun _ _ => trivial) HB0.out HB0.out.size (by have := Hl.out; have := Hm.out; simp only [List.length_nil]; omega) ?_; intro v9 w9 hr9 hb9 hg9 hat9; have HR9 := Lib.hid hr9; have HB9 := Lib.hid hb9; clear hr9 hb9 hg9 hat9)
    go_ret
    exact ⟨_, rfl, HR9.out, HB9.out⟩
set_option maxHeartbeats 4000000 in
set_option maxRecDepth 100000 in
theorem copy_calls {W : World} {p M n kept : Nat} {v : Value} {h : Hist} (H : DkAt W p M v n h kept) (hl : h.length ≤ 1000000) :
    Calls Tryd.prog 17 #[.pointer (some ⟨p, 0, none⟩)] W fun e w' => ∃ pc Mc u, e = .returned (.pointer (some ⟨pc, 0, none⟩)) ∧ DkAt w' pc Mc u n h kept ∧ W.heap.size ≤ pc ∧ W.heap.size ≤ Mc ∧ (∀ k, u.ownBlock = some k → W.heap.size ≤ k) ∧ Below W.heap.size W w' := by
  have HD := Lib.hid H
  have HC := Lib.hid (check_calls H 0)
  rw [show chk n 0 = 0 from if_pos (by have := H.nn; omega)] at HC
  have Hl := Lib.hid hl
  clear H hl
  go_enter Tryd.func17, Tryd.ntmps17
  go_wp2_with fail
  refine HC.out.mono ?_; rintro e w1 ⟨rfl, hb1⟩
  have HD1 := Lib.hid (HD.out.below hb1 (Nat.le_refl _))
  have HB1 := Lib.hid hb1
  obtain ⟨D, ho, hmi⟩ := HD1.out.map
  have HCl := Lib.hid (mclone_calls (W := w1.drew) ho)
  have HMi := Lib.hid hmi
  clear hb1 ho hmi HC
  go_upto_region 3 with fail
  refine start_ (n := 17) (S := fun w' => w'.cell? ⟨p, 0, none⟩ = some (.int .i64 (n : Int)) ∧ w'.cell? ⟨p, 1, none⟩ = some (.map (some M)) ∧ w'.cell? ⟨p, 2, none⟩ = some (v)) (ds := []) #[false, false, false, false, false, false, false, false, false, false, false, false, false, false, false, false, false] (by kernel_rfl) rfl rfl ⟨HD1.out.drew.cells.1, HD1.out.drew.cells.2.1, HD1.out.drew.cells.2.2⟩ (fun hHeld => ?_)
  refine pure_ (i := 0) (N := some 6) (v := ?_) (a' := ?_) #[true, false, false, false, false, false, false, false, false, false, false, false, false, false, false, false, false] rfl rfl (by kernel_rfl) (fun _ _ _ h => h) (Or.inl ⟨by rfl, ?_⟩) ?_ ?_
  rotate_left
  · intro w'
    go_simp
    with_reducible rfl
  rotate_left
  · simp only [Act.put, List.setIfInBounds_toArray, List.set_cons_zero, List.set_cons_succ, i64_w, i32_w]
    rfl
  refine pure_ (i := 1) (N := some 7) (v := ?_) (a' := ?_) #[true, true, false, false, false, false, false, false, false, false, false, false, false, false, false, false, false] rfl rfl (by kernel_rfl) (fun _ _ _ h => h) (Or.inl ⟨by rfl, ?_⟩) ?_ ?_
  rotate_left
  · intro w'
    go_simp
    with_reducible rfl
  rotate_left
  · simp only [Act.put, List.setIfInBounds_toArray, List.set_cons_zero, List.set_cons_succ, i64_w, i32_w]
    rfl
  refine pure_ (i := 2) (N := some 8) (v := ?_) (a' := ?_) #[true, true, true, false, false, false, false, false, false, false, false, false, false, false, false, false, false] rfl rfl (by kernel_rfl) (fun _ _ _ h => h) (Or.inl ⟨by rfl, ?_⟩) ?_ ?_
  rotate_left
  · intro w'
    go_simp
    with_reducible rfl
  rotate_left
  · simp only [Act.put, List.setIfInBounds_toArray, List.set_cons_zero, List.set_cons_succ, i64_w, i32_w]
    rfl
  refine pure_ (i := 4) (N := some 10) (v := ?_) (a' := ?_) #[true, true, true, false, true, false, false, false, false, false, false, false, false, false, false, false, false] rfl rfl (by kernel_rfl) (fun _ _ _ h => h) (Or.inl ⟨by rfl, ?_⟩) ?_ ?_
  rotate_left
  · intro w'
    go_simp
    with_reducible rfl
  rotate_left
  · simp only [Act.put, List.setIfInBounds_toArray, List.set_cons_zero, List.set_cons_succ, i64_w, i32_w]
    rfl
  refine pure_ (i := 5) (N := some 11) (v := ?_) (a' := ?_) #[true, true, true, false, true, true, false, false, false, false, false, false, false, false, false, false, false] rfl rfl (by kernel_rfl) (fun _ _ _ h => h) (Or.inl ⟨by rfl, ?_⟩) ?_ ?_
  rotate_left
  · intro w'
    go_simp
    with_reducible rfl
  rotate_left
  · simp only [Act.put, List.setIfInBounds_toArray, List.set_cons_zero, List.set_cons_succ, i64_w, i32_w]
    rfl
  refine pure_ (i := 6) (N := some 12) (v := ?_) (a' := ?_) #[true, true, true, false, true, true, true, false, false, false, false, false, false, false, false, false, false] rfl rfl (by kernel_rfl) (fun _ _ _ h => h) (Or.inl ⟨by rfl, ?_⟩) ?_ ?_
  rotate_left
  · intro w'
    go_simp
    with_reducible rfl
  rotate_left
  · simp only [Act.put, List.setIfInBounds_toArray, List.set_cons_zero, List.set_cons_succ, i64_w, i32_w]
    rfl
  refine pure_ (i := 9) (N := some 15) (v := ?_) (a' := ?_) #[true, true, true, false, true, true, true, false, false, true, false, false, false, false, false, false, false] rfl rfl (by kernel_rfl) (fun _ _ _ h => h) (Or.inl ⟨by rfl, ?_⟩) ?_ ?_
  rotate_left
  · intro w'
    go_simp
    with_reducible rfl
  rotate_left
  · simp only [Act.put, List.setIfInBounds_toArray, List.set_cons_zero, List.set_cons_succ, i64_w, i32_w]
    rfl
  refine pure_ (i := 10) (N := some 16) (v := ?_) (a' := ?_) #[true, true, true, false, true, true, true, false, false, true, true, false, false, false, false, false, false] rfl rfl (by kernel_rfl) (fun _ _ _ h => h) (Or.inl ⟨by rfl, ?_⟩) ?_ ?_
  rotate_left
  · intro w'
    go_simp
    with_reducible rfl
  rotate_left
  · simp only [Act.put, List.setIfInBounds_toArray, List.set_cons_zero, List.set_cons_succ, i64_w, i32_w]
    rfl
  refine pure_ (i := 11) (N := some 17) (v := ?_) (a' := ?_) #[true, true, true, false, true, true, true, false, false, true, true, true, false, false, false, false, false] rfl rfl (by kernel_rfl) (fun _ _ _ h => h) (Or.inl ⟨by rfl, ?_⟩) ?_ ?_
  rotate_left
  · intro w'
    go_simp
    with_reducible rfl
  rotate_left
  · simp only [Act.put, List.setIfInBounds_toArray, List.set_cons_zero, List.set_cons_succ, i64_w, i32_w]
    rfl
  refine take_ (i := 3) (N := some 9) (v := ?_) (a' := ?_) #[true, true, true, true, true, true, true, false, false, true, true, true, false, false, false, false, false] rfl rfl (by kernel_rfl) (fun _ _ _ h => h) (Or.inl ⟨by rfl, ?_⟩) hHeld ?_ ?_
  rotate_left
  · rintro w' ⟨s0, s1, s2⟩
    go_simp
    with_reducible rfl
  rotate_left
  · simp only [Act.put, List.setIfInBounds_toArray, List.set_cons_zero, List.set_cons_succ, i64_w, i32_w]
    rfl
  refine take_ (i := 7) (N := some 13) (v := ?_) (a' := ?_) #[true, true, true, true, true, true, true, true, false, true, true, true, false, false, false, false, false] rfl rfl (by kernel_rfl) (fun _ _ _ h => h) (Or.inl ⟨by rfl, ?_⟩) hHeld ?_ ?_
  rotate_left
  · rintro w' ⟨s0, s1, s2⟩
    go_simp
    with_reducible rfl
  rotate_left
  · simp only [Act.put, List.setIfInBounds_toArray, List.set_cons_zero, List.set_cons_succ, i64_w, i32_w]
    rfl
  refine take_ (i := 12) (N := some 18) (v := ?_) (a' := ?_) #[true, true, true, true, true, true, true, true, false, true, true, true, true, false, false, false, false] rfl rfl (by kernel_rfl) (fun _ _ _ h => h) (Or.inl ⟨by rfl, ?_⟩) hHeld ?_ ?_
  rotate_left
  · rintro w' ⟨s0, s1, s2⟩
    go_simp
    with_reducible rfl
  rotate_left
  · simp only [Act.put, List.setIfInBounds_toArray, List.set_cons_zero, List.set_cons_succ, i64_w, i32_w]
    rfl
  refine one_ (i := 8) (N := some 14) #[true, true, true, true, true, true, true, true, true, true, true, true, true, false, false, false, false] rfl rfl (by kernel_rfl) (by decide) (fun K hK => ?_)
  refine goes_ Tryd.func33 (by kernel_rfl) rfl #[.map (some M)] (by rfl) rfl rfl (by simp only [List.map_toArray, List.map_cons, List.map_nil]; rfl) ?_
  with_reducible refine (HCl.out).mono ?_
  rintro e w3 ⟨rfl, ho3, hb3⟩
  refine ⟨_, rfl, ?_⟩
  have HD3 := Lib.hid (HD1.out.drew.below hb3 (Nat.le_refl _))
  have HB3 := Lib.hid (below_step (below_drew HB1.out) hb3)
  have HS3 : Hid (W.heap.size ≤ w3.heap.size) := Lib.hid HB3.out.size
  have HO3 := Lib.hid ho3
  clear ho3 hb3
  refine hK.out _ _ ⟨HD3.out.cells.1, HD3.out.cells.2.1, HD3.out.cells.2.2⟩ (fun hHeld => ?_)
  clear hK K
  refine norm_ (a' := ?_) ?_ ?_
  rotate_left
  · show Act.put _ (some 14) _ = _
    simp only [Act.put, List.setIfInBounds_toArray, List.set_cons_zero, List.set_cons_succ, i64_w, i32_w]
    rfl
  refine one_ (i := 13) (N := some 19) #[true, true, true, true, true, true, true, true, true, true, true, true, true, true, false, false, false] rfl rfl (by kernel_rfl) (by decide) (fun K hK => ?_)
  refine goes_ Tryd.func34 (by kernel_rfl) rfl #[v] (by rfl) rfl rfl (by simp only [List.map_toArray, List.map_cons, List.map_nil]; rfl) ?_
  with_reducible refine (sclone_calls HD3.out.row (by rw [logOf_length]; have := Hl.out; omega)).mono ?_
  rintro e w4 ⟨u4, rfl, hr4, hb4⟩
  refine ⟨_, rfl, ?_⟩
  have HD4 := Lib.hid (HD3.out.below hb4 (Nat.le_refl _))
  have HB4 := Lib.hid (below_step HB3.out hb4)
  have HO4 := Lib.hid (ownsMap_move HO3.out (hb4.block _ HO3.out.lt))
  obtain ⟨Au, cu, rfl⟩ := Kd.R_slice hr4
  have HR4 := Lib.hid hr4
  clear hr4 hb4
  refine hK.out _ _ ⟨HD4.out.cells.1, HD4.out.cells.2.1, HD4.out.cells.2.2⟩ (fun hHeld => ?_)
  clear hK K
  refine norm_ (a' := ?_) ?_ ?_
  rotate_left
  · show Act.put _ (some 19) _ = _
    simp only [Act.put, List.setIfInBounds_toArray, List.set_cons_zero, List.set_cons_succ, i64_w, i32_w]
    rfl
  refine pure_ (i := 14) (N := some 20) (v := ?_) (a' := ?_) #[true, true, true, true, true, true, true, true, true, true, true, true, true, true, true, false, false] rfl rfl (by kernel_rfl) (fun _ _ _ h => h) (Or.inl ⟨by rfl, ?_⟩) ?_ ?_
  rotate_left
  · intro w'
    go_simp
    with_reducible rfl
  rotate_left
  · simp only [Act.put, List.setIfInBounds_toArray, List.set_cons_zero, List.set_cons_succ, i64_w, i32_w]
    rfl
  refine one_ (i := 15) (N := some 21) #[true, true, true, true, true, true, true, true, true, true, true, true, true, true, true, true, false] rfl rfl (by kernel_rfl) (by decide) (fun K hK => ?_)
  refine value_ (w1 := ?_) (v := ?_) (by rfl) rfl ?_ ?_
  rotate_left 2
  · go_simp
    constructor
    · rfl
    · rfl
  refine hK.out _ _ ⟨(HD4.out.alloc _).cells.1, (HD4.out.alloc _).cells.2.1, (HD4.out.alloc _).cells.2.2⟩ (fun hHeld => ?_)
  clear hK K
  refine norm_ (a' := ?_) ?_ ?_
  rotate_left
  · show Act.put _ (some 21) _ = _
    simp only [Act.put, List.setIfInBounds_toArray, List.set_cons_zero, List.set_cons_succ, i64_w, i32_w]
    rfl
  refine pure_ (i := 16) (N := some 2) (v := ?_) (a' := ?_) #[true, true, true, true, true, true, true, true, true, true, true, true, true, true, true, true, true] rfl rfl (by kernel_rfl) (fun _ _ _ h => h) (Or.inl ⟨by rfl, ?_⟩) ?_ ?_
  rotate_left
  · intro w'
    go_simp
    with_reducible rfl
  rotate_left
  · simp only [Act.put, List.setIfInBounds_toArray, List.set_cons_zero, List.set_cons_succ, i64_w, i32_w]
    rfl
  refine done_ (by kernel_rfl) ?_
  clear hHeld
  obtain ⟨u4, hu4⟩ : ∃ x, Value.slice Au (logOf h kept).length cu = x := ⟨_, rfl⟩
  rw [hu4] at HR4
  rw [hu4]
  clear hu4
  go_wp2
  go_ret
  have hcs : (w4.alloc (.cells #[.int .i64 (n : Int), .map (some w1.heap.size), u4] 58)).heap[w4.heap.size]? = some (.cells #[.int .i64 (n : Int), .map (some w1.heap.size), u4] 58 (0, 0)) := blk_new w4 _
  refine ⟨w4.heap.size, w1.heap.size, u4, rfl, ⟨hcs, ⟨D, (HO4.out.alloc _), HMi.out⟩, kW_move (Kd.R_lower HR4.out (Nat.zero_le _)) (fun k hk => (below_alloc (Below.refl w4.heap.size w4) _).block k (Kd.R_lt HR4.out k hk)), HD.out.le, HD.out.good, HD.out.nn⟩, HB4.out.size, HB1.out.size, fun k hk => Nat.le_trans HS3.out (Kd.R_base HR4.out k hk), below_alloc HB4.out _⟩
theorem keys_calls (mb : Option Nat) (W : World) : Calls Tryd.prog 42 #[.map mb] W fun e w' => e = .returned (.func (.func 52) #[] #[.pointer (some ⟨W.heap.size, 0, none⟩)]) ∧ w' = W.alloc (.cells #[.map mb] 55) := (callsIn_wide (n := 5)).1 (Tryd.maps_Keys_in mb W)
def usedI (n : Nat) (f : Nat → ByteArray) : List Int := (used n f).map fun (i : Nat) => (i : Int)
theorem sorted_calls {W : World} {M n : Nat} {D : DataW Unit} {f : Nat → ByteArray} (ho : W.ownsMap Tryd.prog 3 heldE M n D) (hm : MapIs D n f) (hn : n ≤ 131072) :
    Calls Tryd.prog 41 #[.func (.func 52) #[] #[.pointer (some ⟨W.heap.size, 0, none⟩)]] (W.alloc (.cells #[.map (some M)] 55)) fun e w' => ∃ u, e = .returned u ∧ w'.ownsRow W.heap.size 3 1 u (usedI n f).length (nums .i64 (usedI n f)) ∧ Below W.heap.size W w' := by
  have hs := size_used Tryd.underlying3 ho hm
  have hle := used_le n f
  refine ((callsIn_wide (n := 5)).1 (Tryd.slices_Sorted_in M n D heldE W ho (by unfold maxLen; omega) (by omega))).mono fun e w' ⟨u, ss, he, hp, hrow, _, hb⟩ => ⟨u, he, ?_, ?_⟩
  · rw [sorted_used Tryd.underlying3 ho hm hp] at hrow
    have hl : ss.length = (usedI n f).length := by
      have h1 := hp.length_eq
      have h2 := (keys_used Tryd.underlying3 ho hm).length_eq
      rw [h1, ← h2]
      rfl
    rw [hl] at hrow
    refine own_weaken hrow ?_
    simp
  · exact (below_alloc (Below.refl _ _) _).trans (hb.mono (by simp))
set_option maxHeartbeats 1000000 in
set_option maxRecDepth 100000 in
theorem used_calls {W : World} {p M n kept : Nat} {v : Value} {h : Hist} (H : DkAt W p M v n h kept) :
    Calls Tryd.prog 26 #[.pointer (some ⟨p, 0, none⟩)] W fun e w' => ∃ u, e = .returned u ∧ w'.ownsRow W.heap.size 3 1 u (usedI n (cont h)).length (nums .i64 (usedI n (cont h))) ∧ Below W.heap.size W w' := by
  have HD := Lib.hid H
  have HC := Lib.hid (check_calls H 0)
  rw [show chk n 0 = 0 from if_pos (by have := H.nn; omega)] at HC
  clear H
  go_enter Tryd.func26, Tryd.ntmps26
  go_wp2_with fail
  refine HC.out.mono ?_; rintro e w1 ⟨rfl, hb1⟩
  have HD1 := Lib.hid (HD.out.below hb1 (Nat.le_refl _))
  have HB1 := Lib.hid hb1
  obtain ⟨c0, c1, c2⟩ := HD1.out.cells
  obtain ⟨D, ho, hmi⟩ := HD1.out.map
  have HK := Lib.hid (keys_calls (some M) w1)
  have HS := Lib.hid (sorted_calls ho hmi HD.out.nn.2)
  clear hb1 ho hmi HC
  go_wp2_with fail
  refine HK.out.mono ?_; rintro e w2 ⟨rfl, rfl⟩
  go_wp2_with fail
  refine HS.out.mono ?_; rintro e w3 ⟨u, rfl, hu, hb3⟩
  have HU := Lib.hid hu
  have HB3 := Lib.hid (below_step HB1.out hb3)
  clear hu hb3 c0 c1 c2
  go_wp2
  go_ret
  exact ⟨_, rfl, own_weaken HU.out HB1.out.size, HB3.out⟩
end Go.Proofs.YteooldbdilkmeaaDoor.SC

namespace Go.Proofs.YteooldbdilkmeaaDoor.SC
open Go.RowKit Go.Maps Go.Proofs.YteooldbdilkmeaaDoorW.PrintWords Go.Proofs.YteooldbdilkmeaaDoorW.PrintLast Go.Proofs.YteooldbdilkmeaaDoorW.PrintMore
set_option linter.unusedVariables false
set_option linter.unusedSimpArgs false
def byteAt (s : ByteArray) (j : Nat) : Nat := (s.data.toList.getD j 0).toNat
theorem byteAt_get (s : ByteArray) (j : Nat) (h : j < s.size) : byteAt s j = (s[j]'h).toNat := by
  unfold byteAt
  rw [List.getD_eq_getElem?_getD, List.getElem?_eq_getElem (by rw [← size_toL]; exact h)]
  simp
  rfl
theorem full_at (s : ByteArray) (hs : s.size ≤ 512) (j : Nat) (h : s.size ≤ j) : byteAt (full s) j = 0 := by
  unfold byteAt
  rw [full_toL, List.getD_eq_getElem?_getD, List.getElem?_append_right (by rw [← size_toL]; exact h), List.getElem?_replicate]
  split <;> rfl
theorem full_in (s : ByteArray) (j : Nat) (h : j < s.size) : byteAt (full s) j = byteAt s j := by
  unfold byteAt
  rw [full_toL, List.getD_eq_getElem?_getD, List.getElem?_append_left (by rw [← size_toL]; exact h), List.getD_eq_getElem?_getD]
theorem one_a : cont ([] ++ [(3, trim ⟨#[97]⟩)]) 3 = ⟨#[97]⟩ := by decide +kernel
set_option maxHeartbeats 2000000 in
set_option maxRecDepth 100000 in
theorem works20 (W : World) : Calls Tryd.prog 11 #[] W fun e w' => e = .returned (.bool true) ∧ Below W.heap.size W w' := by
  have HNw := Lib.hid (new_calls 256 (by decide) W)
  obtain ⟨Sa, hSa⟩ : ∃ x, full (⟨#[97]⟩ : ByteArray) = x := ⟨_, rfl⟩
  have hsz : Sa.size = 512 := by rw [← hSa]; exact full_size _ (by decide)
  have hix : ∀ h : 0 < Sa.size, (Sa[0]'h).toNat = 97 := fun h => by rw [← byteAt_get, ← hSa, full_in _ 0 (by decide)]; rfl
  obtain ⟨Sz, hSz⟩ : ∃ x, full E0 = x := ⟨_, rfl⟩
  have hsz2 : Sz.size = 512 := by rw [← hSz]; exact full_size _ (by decide)
  have hix2 : ∀ h : 0 < Sz.size, (Sz[0]'h).toNat = 0 := fun h => by rw [← byteAt_get, ← hSz, full_at _ (by decide) 0 (by decide)]
  have hp2 : 0 < Sz.size := by rw [hsz2]; decide
  have hp1 : 0 < Sa.size := by rw [hsz]; decide
  have hne : ((Sa.size : Int) != 512) = false := by rw [hsz]; rfl
  have Hix := Lib.hid hix
  have Hix2 := Lib.hid hix2
  have HSa := Lib.hid hSa
  have HSz := Lib.hid hSz
  have Hne := Lib.hid hne
  clear hix hix2 hsz hsz2 hSa hSz hne
  go_enter Tryd.func11, Tryd.ntmps11
  go_wp2_with fail
  refine HNw.out.mono ?_; rintro e w1 ⟨rfl, hd1, hb1⟩
  obtain ⟨M, hM⟩ : ∃ x, W.heap.size = x := ⟨_, rfl⟩
  obtain ⟨p, hp⟩ : ∃ x, M + 1 = x := ⟨_, rfl⟩
  have HM := Lib.hid hM
  have Hp := Lib.hid hp
  rw [hM, hp] at hd1
  rw [hM, hp]
  have HD1 := Lib.hid hd1
  have HB1 := Lib.hid hb1
  have HWr := Lib.hid (write_calls HD1.out 3 (by decide) ⟨#[97]⟩ (by decide) (by decide))
  clear hd1 hb1 hM hp
  go_wp2_with fail
  refine HWr.out.mono ?_; rintro e w2 ⟨rfl, ⟨v2, hd2, hmv2⟩, ho2⟩
  have HC2 := Lib.hid one_a
  obtain ⟨h1, hh1⟩ : ∃ x, (([] : Hist) ++ [(3, trim ⟨#[97]⟩)]) = x := ⟨_, rfl⟩
  have hl1 : h1.length = 1 := by rw [← hh1]; rfl
  rw [hh1] at hd2 HC2
  have HD2 := Lib.hid hd2
  have HB2 : Hid (Below W.heap.size W w2) := Lib.hid (OnlyD.below HB1.out ho2 HB1.out.size (by have := HM.out; have := Hp.out; omega) (by have := HM.out; omega) (fun k hk => by cases hk))
  have HCt := Lib.hid (cut_calls HD2.out (by omega) 0 (by omega))
  clear hd2 hmv2 ho2 hh1 hl1
  go_wp2_with fail
  refine HCt.out.mono ?_; rintro e w3 ⟨pc, Mc, rfl, hd3, hpc, hMc, hb3⟩
  have HD3 := Lib.hid (HD2.out.below hb3 (Nat.le_refl _))
  have HE3 := Lib.hid hd3
  have HB3 := Lib.hid (below_step HB2.out hb3)
  have HR3 := Lib.hid (read_calls HD3.out 3 (by decide))
  rw [HC2.out, HSa.out] at HR3
  clear hd3 hpc hMc hb3
  go_wp2_with fail
  refine HR3.out.mono ?_; rintro e w4 ⟨rfl, hb4⟩
  have HE4 := Lib.hid (HE3.out.below hb4 (Nat.le_refl _))
  have HB4 := Lib.hid (below_step HB3.out hb4)
  have HR4 := Lib.hid (read_calls HE4.out 3 (by decide))
  rw [show cont (h1.take (0 + 0)) 3 = E0 from rfl, HSz.out] at HR4
  have hix := Hix.out
  have hne := Hne.out
  clear hb4
  go_wp2_with fail
  refine HR4.out.mono ?_; rintro e w5 ⟨rfl, hb5⟩
  have HB5 := Lib.hid (below_step HB4.out hb5)
  have hix2 := Hix2.out
  clear hb5
  go_wp2
  go_ret
  exact ⟨rfl, HB5.out⟩
end Go.Proofs.YteooldbdilkmeaaDoor.SC

namespace Go.Proofs.YteooldbdilkmeaaDoor.SC
open Go.RowKit Go.Maps Go.Proofs.YteooldbdilkmeaaDoorW.PrintWords Go.Proofs.YteooldbdilkmeaaDoorW.PrintLast Go.Proofs.YteooldbdilkmeaaDoorW.PrintMore
set_option linter.unusedVariables false
set_option linter.unusedSimpArgs false
structure QAt (W : World) (q : Nat) (v : Value) (n : Nat) (h : Hist) (kept : Nat) : Prop where
  blk : W.heap[q]? = some (.cells #[.int .i64 (n : Int), v, .int .i64 (kept : Int)] 70 (0, 0))
  row : kA.R 31 W 0 (fun _ => True) v (logA h)
  le : kept ≤ h.length
  good : Good n h
  nn : 256 ≤ n ∧ n ≤ 131072
theorem QAt.lt {W : World} {q n kept : Nat} {v : Value} {h : Hist} (H : QAt W q v n h kept) : q < W.heap.size ∧ ∀ k, v.ownBlock = some k → k < W.heap.size := ⟨blk_lt H.blk, Kd.R_lt H.row⟩
theorem QAt.move {W W' : World} {q n kept : Nat} {v : Value} {h : Hist} (H : QAt W q v n h kept) (hp : W'.heap[q]? = W.heap[q]?) (hv : ∀ k, v.ownBlock = some k → W'.heap[k]? = W.heap[k]?) : QAt W' q v n h kept := ⟨hp.trans H.blk, kA_move H.row hv, H.le, H.good, H.nn⟩
theorem QAt.below {W W' : World} {q n kept : Nat} {v : Value} {h : Hist} (H : QAt W q v n h kept) {m : Nat} (hb : Below m W W') (hm : W.heap.size ≤ m) : QAt W' q v n h kept :=
  H.move (hb.block q (Nat.lt_of_lt_of_le H.lt.1 hm)) fun k hk => hb.block k (Nat.lt_of_lt_of_le (H.lt.2 k hk) hm)
theorem QAt.drew {W : World} {q n kept : Nat} {v : Value} {h : Hist} (H : QAt W q v n h kept) : QAt W.drew q v n h kept := H.move rfl fun _ _ => rfl
theorem QAt.alloc {W : World} {q n kept : Nat} {v : Value} {h : Hist} (H : QAt W q v n h kept) (o : Obj) : QAt (W.alloc o) q v n h kept := H.below (below_alloc (Below.refl W.heap.size W) o) (Nat.le_refl _)
theorem QAt.cells {W : World} {q n kept : Nat} {v : Value} {h : Hist} (H : QAt W q v n h kept) : W.cell? ⟨q, 0, none⟩ = some (.int .i64 (n : Int)) ∧ W.cell? ⟨q, 1, none⟩ = some v ∧ W.cell? ⟨q, 2, none⟩ = some (.int .i64 (kept : Int)) :=
  ⟨blk_cell H.blk 0, blk_cell H.blk 1, blk_cell H.blk 2⟩
structure OnlyQ (q : Nat) (v : Value) (w w' : World) : Prop where
  os : w'.os = w.os
  tape : w'.tape = w.tape
  output : w'.output = w.output
  size : w.heap.size ≤ w'.heap.size
  block : ∀ k, k < w.heap.size → k ≠ q → some k ≠ v.ownBlock → w'.heap[k]? = w.heap[k]?
theorem OnlyQ.of {q n : Nat} {v : Value} {a b : World} (h : Below n a b) (hn : a.heap.size ≤ n) : OnlyQ q v a b := ⟨h.os, h.tape, h.output, h.size, fun k hk _ _ => h.block k (Nat.lt_of_lt_of_le hk hn)⟩
theorem OnlyQ.trans {q : Nat} {v v' : Value} {a b c : World} (h : OnlyQ q v a b) (k : OnlyQ q v' b c) (hm : Moved a v v') : OnlyQ q v a c :=
  ⟨k.os.trans h.os, k.tape.trans h.tape, k.output.trans h.output, Nat.le_trans h.size k.size, fun i hi h1 h3 => (k.block i (Nat.lt_of_lt_of_le hi h.size) h1 (fun e => by
    rcases hm with hm | hm
    · exact h3 (e.trans hm)
    · have := hm i e.symm; omega)).trans (h.block i hi h1 h3)⟩
theorem OnlyQ.grown {q : Nat} {v : Value} {a b : World} {r : Option Nat} (h : a.grownBy b r) (hr : ∀ k, r = some k → k = q ∨ some k = v.ownBlock ∨ a.heap.size ≤ k) : OnlyQ q v a b :=
  ⟨h.os, h.tape, h.output, h.size, fun k hk h1 h3 => h.block k hk (fun e => by rcases hr k e.symm with h | h | h; exact h1 h; exact h3 h; omega)⟩
theorem OnlyQ.below {q base : Nat} {v : Value} {a b c : World} (h : Below base a b) (o : OnlyQ q v b c) (hb : base ≤ b.heap.size) (hp : base ≤ q) (hv : ∀ k, v.ownBlock = some k → base ≤ k) : Below base a c :=
  ⟨o.os.trans h.os, o.tape.trans h.tape, o.output.trans h.output, Nat.le_trans h.size o.size, fun k hk => (o.block k (Nat.lt_of_lt_of_le hk hb) (by omega) (fun e => by have := hv k e.symm; omega)).trans (h.block k hk)⟩
theorem typed_ne {W : World} {a b t t' : Nat} {c c' : Array Value} (ha : W.heap[a]? = some (.cells c t (0, 0))) (hb : W.heap[b]? = some (.cells c' t' (0, 0))) (h : t ≠ t') : a ≠ b := fun e => by
  rw [e, hb] at ha
  injection ha with ha
  injection ha with _ ha
  exact h ha.symm
theorem map_ne {W : World} {a b t' : Nat} {c' : Array Value} {es : Array MapEntry} {ck : Nat} (ha : W.heap[a]? = some (.map es ck)) (hb : W.heap[b]? = some (.cells c' t' (0, 0))) : a ≠ b := fun e => by rw [e, hb] at ha; cases ha
theorem QAt.own {W : World} {q n kept : Nat} {v : Value} {h : Hist} (H : QAt W q v n h kept) (k : Nat) (hk : v.ownBlock = some k) : ∃ c, W.heap[k]? = some (.cells c 31 (0, 0)) := by
  obtain ⟨inner, ho⟩ := Kd.R_own H.row
  exact own_typed ho k hk
theorem DkAt.own {W : World} {p M n kept : Nat} {v : Value} {h : Hist} (H : DkAt W p M v n h kept) (k : Nat) (hk : v.ownBlock = some k) : ∃ c, W.heap[k]? = some (.cells c 65 (0, 0)) := by
  obtain ⟨inner, ho⟩ := Kd.R_own H.row
  exact own_typed ho k hk
theorem DkAt.onlyQ {W W' : World} {p M n kept : Nat} {v : Value} {h : Hist} (H : DkAt W p M v n h kept) {q n' kept' : Nat} {v' : Value} {h' : Hist} (H' : QAt W q v' n' h' kept') (o : OnlyQ q v' W W') : DkAt W' p M v n h kept := by
  obtain ⟨es, ck, hM⟩ := H.map_blk
  refine H.move (o.block p H.lt.1 (typed_ne H.blk H'.blk (by decide)) fun e => ?_) (o.block M H.lt.2.1 (map_ne hM H'.blk) fun e => ?_) fun k hk => ?_
  · obtain ⟨c, hc⟩ := H'.own p e.symm
    exact typed_ne H.blk hc (by decide) rfl
  · obtain ⟨c, hc⟩ := H'.own M e.symm
    exact map_ne hM hc rfl
  · obtain ⟨c, hc⟩ := H.own k hk
    exact o.block k (H.lt.2.2 k hk) (typed_ne hc H'.blk (by decide)) fun e => by
      obtain ⟨c', hc'⟩ := H'.own k e.symm
      exact typed_ne hc hc' (by decide) rfl
theorem QAt.onlyD {W W' : World} {q n kept : Nat} {v : Value} {h : Hist} (H : QAt W q v n h kept) {p M n' kept' : Nat} {v' : Value} {h' : Hist} (H' : DkAt W p M v' n' h' kept') (o : OnlyD p M v' W W') : QAt W' q v n h kept := by
  obtain ⟨es, ck, hM⟩ := H'.map_blk
  refine H.move (o.block q H.lt.1 (typed_ne H.blk H'.blk (by decide)) (fun e => map_ne hM H.blk e.symm) fun e => ?_) fun k hk => ?_
  · obtain ⟨c, hc⟩ := H'.own q e.symm
    exact typed_ne H.blk hc (by decide) rfl
  · obtain ⟨c, hc⟩ := H.own k hk
    exact o.block k (H.lt.2 k hk) (typed_ne hc H'.blk (by decide)) (fun e => map_ne hM hc e.symm) fun e => by
      obtain ⟨c', hc'⟩ := H'.own k e.symm
      exact typed_ne hc hc' (by decide) rfl
theorem qnew_no (n : Int) (h : n < 256 ∨ 131072 < n) (W : World) :
    Calls Tryd.prog 19 #[.int .i64 n] W fun e w' => e = .returned (.tuple #[.pointer none, .int .i64 2]) ∧ Below W.heap.size W w' := by
  by_cases h1 : n < 256
  · have hd := decide_eq_true h1
    go_enter Tryd.func19, Tryd.ntmps19
    go_wp2
    go_ret2
    exact ⟨rfl, Below.refl _ _⟩
  · have hd := decide_eq_false h1
    have hd2 : decide (131072 < n) = true := decide_eq_true (by omega)
    go_enter Tryd.func19, Tryd.ntmps19
    go_wp2
    go_ret2
    exact ⟨rfl, Below.refl _ _⟩
set_option maxHeartbeats 1000000 in
set_option maxRecDepth 100000 in
theorem qnew_calls (n : Nat) (hn : 256 ≤ n ∧ n ≤ 131072) (W : World) :
    Calls Tryd.prog 19 #[.int .i64 (n : Int)] W fun e w' => e = .returned (.tuple #[.pointer (some ⟨W.heap.size, 0, none⟩), .int .i64 0]) ∧ QAt w' W.heap.size (.slice none 0 0) n [] 0 ∧ Below W.heap.size W w' := by
  have HN := Lib.hid hn
  have d1 : decide ((n : Int) < 256) = false := decide_eq_false (by omega)
  have d2 : decide (131072 < (n : Int)) = false := decide_eq_false (by omega)
  have d1n : decide (n < 256) = false := decide_eq_false (by omega)
  have d2n : decide (131072 < n) = false := decide_eq_false (by omega)
  clear hn
  go_enter Tryd.func19, Tryd.ntmps19
  go_wp2
  go_ret2
  exact ⟨rfl, ⟨blk_new W _, Kd.R_nil _ _ _ _ _, Nat.zero_le _, Good.nil n, HN.out⟩, below_alloc (Below.refl _ _) _⟩
theorem infoU8s : (Tryd.prog.info? 5).map (fun i => (i.zero, i.size, i.bytes)) = some (some (.int .u8 0), 1, 1) := by kernel_rfl
set_option maxHeartbeats 1000000 in
set_option maxRecDepth 100000 in
theorem blank_calls (W : World) : Calls Tryd.prog 35 #[] W fun e w' => e = .returned (.string (full E0)) ∧ Below W.heap.size W w' := by
  have hmk : ∀ W : World, (Instr.makeSlice 54 (.int .i64 512) (.int .i64 512)).run Tryd.prog W = .ok (.slice (some ⟨W.heap.size, 0, none⟩) 512 512) (W.alloc (.cells (madeCells #[.int .u8 0] 512) 5)) :=
    print_make (P := Tryd.prog) 54 5 .u8 1 Tryd.underlying54 infoU8s (by decide) 512 (by decide)
  have hown := own_made W W.heap.size 5 .u8 512 (Nat.le_refl _) (by decide)
  have hcv := string_of_reads (c := 512) (src := 54) Tryd.underlying54 Tryd.underlying5 Tryd.underlying9 (own_reads' hown)
  have hz : strOfNums (List.replicate 512 0) = full E0 := by
    rw [full_zeros]
    apply ext'
    unfold strOfNums
    simp [zeros]
  rw [hz] at hcv
  have HB := Lib.hid (below_alloc (Below.refl W.heap.size W) (.cells (madeCells #[.int .u8 0] 512) 5))
  obtain ⟨W2, hW2⟩ : ∃ V, W.alloc (.cells (madeCells #[.int .u8 0] 512) 5) = V := ⟨_, rfl⟩
  have hmk1 := hmk W
  rw [hW2] at hcv HB hmk1
  clear hown hz hmk hW2
  go_enter Tryd.func35, Tryd.ntmps35
  go_wp2
  go_ret
  exact ⟨rfl, HB.out⟩
end Go.Proofs.YteooldbdilkmeaaDoor.SC

namespace Go.Proofs.YteooldbdilkmeaaDoor.SC
open Go.RowKit Go.Maps Go.Proofs.YteooldbdilkmeaaDoorW.PrintWords Go.Proofs.YteooldbdilkmeaaDoorW.PrintLast Go.Proofs.YteooldbdilkmeaaDoorW.PrintMore
set_option linter.unusedVariables false
set_option linter.unusedSimpArgs false
def okw (n : Nat) (x : Wa) : Prop := 0 ≤ x.1 ∧ x.1 < n ∧ x.2.size ≤ 512
instance (n : Nat) (x : Wa) : Decidable (okw n x) := by unfold okw; infer_instance
def wcode (n : Nat) (x : Wa) : Int := if 0 ≤ x.1 ∧ x.1 < n then (if x.2.size ≤ 512 then 0 else 3) else 2
def stepH (n : Nat) (h : Hist) (x : Wa) : Hist := if okw n x then h ++ [(x.1.toNat, trim x.2)] else h
theorem wcode_ok {n : Nat} {x : Wa} (h : okw n x) : wcode n x = 0 := by unfold wcode; rw [if_pos ⟨h.1, h.2.1⟩, if_pos h.2.2]
theorem stepH_ok {n : Nat} {h : Hist} {x : Wa} (hk : okw n x) : stepH n h x = h ++ [(x.1.toNat, trim x.2)] := if_pos hk
theorem stepH_no {n : Nat} {h : Hist} {x : Wa} (hk : ¬ okw n x) : stepH n h x = h := if_neg hk
theorem stepH_len (n : Nat) (h : Hist) (x : Wa) : h.length ≤ (stepH n h x).length ∧ (stepH n h x).length ≤ h.length + 1 := by
  unfold stepH
  split
  · rw [List.length_append, List.length_singleton]; omega
  · omega
theorem write_any {W : World} {p M n kept : Nat} {v : Value} {h : Hist} (H : DkAt W p M v n h kept) (x : Wa) (hl : h.length ≤ 1000000) :
    Calls Tryd.prog 12 #[.pointer (some ⟨p, 0, none⟩), .int .i64 x.1, .string x.2] W fun e w' => e = .returned (.int .i64 (wcode n x)) ∧ (∃ v', DkAt w' p M v' n (stepH n h x) kept ∧ Moved W v v') ∧ OnlyD p M v W w' := by
  obtain ⟨a, s⟩ := x
  by_cases h1 : 0 ≤ a ∧ a < n
  · by_cases h2 : s.size ≤ 512
    · obtain ⟨i, rfl⟩ : ∃ i : Nat, a = (i : Int) := ⟨a.toNat, by omega⟩
      have hk : okw n ((i : Int), s) := ⟨h1.1, h1.2, h2⟩
      rw [wcode_ok hk, stepH_ok hk]
      exact write_calls H i (by omega) s h2 hl
    · have hk : ¬ okw n (a, s) := fun h => h2 h.2.2
      rw [stepH_no hk, show wcode n (a, s) = 3 by unfold wcode; rw [if_pos h1, if_neg h2]]
      exact (write_long H a h1 s (by omega)).mono fun e w' ⟨he, hb⟩ => ⟨he, ⟨v, H.below hb (Nat.le_refl _), Moved.refl _ _⟩, OnlyD.of hb (Nat.le_refl _)⟩
  · have hk : ¬ okw n (a, s) := fun h => h1 ⟨h.1, h.2.1⟩
    rw [stepH_no hk, show wcode n (a, s) = 2 by unfold wcode; rw [if_neg h1]]
    exact (write_no H a h1 s).mono fun e w' ⟨he, hb⟩ => ⟨he, ⟨v, H.below hb (Nat.le_refl _), Moved.refl _ _⟩, OnlyD.of hb (Nat.le_refl _)⟩
theorem la_at {W : World} {A : Option Addr} {N : Nat} {l : List Wa} (h : kA.C W A N l) (i : Nat) (hi : i < N) : ∃ b o, A = some ⟨b, o, none⟩ ∧ W.cell? ⟨b, o + i * 2, none⟩ = some (.int .i64 (l.getD i (0, E0)).1) ∧ W.cell? ⟨b, o + i * 2 + 1, none⟩ = some (.string (l.getD i (0, E0)).2) := by
  obtain ⟨⟨b, o, sp⟩, cs, rfl, hcl, hK, hcell⟩ := Kd.C_get h (0, E0) (i : Int) (by omega) (by omega)
  obtain rfl := kA_open hK
  obtain ⟨ad0, cs0, had, _, hK0, hcell0⟩ := Kd.C_get h (0, E0) ((0 : Nat) : Int) (by omega) (by omega)
  obtain rfl := kA_open hK0
  injection had with had
  subst had
  obtain rfl : sp = none := by
    have := World.cell?_spot (hcell0 0 _ rfl)
    simpa [Addr.add] using this
  have h0 := hcell 0 _ rfl
  have h1 := hcell 1 _ rfl
  rw [Int.toNat_natCast] at h0 h1
  rw [Addr.add_mid] at h0 h1
  exact ⟨b, o, rfl, h0, h1⟩
theorem int_beq_no {a b : Int} (h : a ≠ b) : (a == b) = false := beq_false_of_ne h
theorem dptr_eqn (g : Nat) (W : World) : (binOp .eql 23 (.pointer (some ⟨g, 0, none⟩)) (.pointer none)).run Tryd.prog W = .ok (.bool false) W := dptr_eq g
end Go.Proofs.YteooldbdilkmeaaDoor.SC

namespace Go.Proofs.YteooldbdilkmeaaDoor.SC
open Go.RowKit Go.Maps Go.Proofs.YteooldbdilkmeaaDoorW.PrintWords Go.Proofs.YteooldbdilkmeaaDoorW.PrintLast Go.Proofs.YteooldbdilkmeaaDoorW.PrintMore
set_option linter.unusedVariables false
set_option linter.unusedSimpArgs false
theorem usedI_at (n : Nat) (f : Nat → ByteArray) (j : Nat) (hj : j < (usedI n f).length) : ∃ x : Nat, rd (usedI n f) (j : Int) = (x : Int) ∧ x < n := by
  unfold usedI at hj ⊢
  rw [List.length_map] at hj
  refine ⟨(used n f)[j], ?_, ((used_mem _).1 (List.getElem_mem hj)).1⟩
  unfold rd
  rw [Int.toNat_natCast, List.getD_eq_getElem?_getD, List.getElem?_map, List.getElem?_eq_getElem hj]
  rfl
theorem usedI_le (n : Nat) (f : Nat → ByteArray) : (usedI n f).length ≤ n := by unfold usedI; rw [List.length_map]; exact used_le n f
end Go.Proofs.YteooldbdilkmeaaDoor.SC

namespace Go.Proofs.YteooldbdilkmeaaDoor.SC
open Go.RowKit Go.Maps Go.Proofs.YteooldbdilkmeaaDoorW.PrintWords Go.Proofs.YteooldbdilkmeaaDoorW.PrintLast Go.Proofs.YteooldbdilkmeaaDoorW.PrintMore
set_option linter.unusedVariables false
set_option linter.unusedSimpArgs false
end Go.Proofs.YteooldbdilkmeaaDoor.SC

namespace Go.Proofs.YteooldbdilkmeaaDoor.SC
open Go.RowKit Go.Maps Go.Proofs.YteooldbdilkmeaaDoorW.PrintWords Go.Proofs.YteooldbdilkmeaaDoorW.PrintLast Go.Proofs.YteooldbdilkmeaaDoorW.PrintMore
set_option linter.unusedVariables false
set_option linter.unusedSimpArgs false
theorem nx_small {i : Nat} (h : i ≤ 1000000) : wrap64 ((i : Int) + 1) = (i : Int) + 1 := by unfold wrap64; omega
theorem OwnA.at_ {W : World} {base : Nat} {ok : Nat → Prop} {A : Option Addr} {n c : Nat} {xs : List Wa} (h : kA.R 31 W base ok (.slice A n c) xs) (hn : xs.length = n) (i : Nat) (hi : i < n) : ∃ g, A = some ⟨g, 0, none⟩ ∧ W.cell? ⟨g, i * 2, none⟩ = some (.int .i64 (xs.getD i (0, E0)).1) ∧ W.cell? ⟨g, i * 2 + 1, none⟩ = some (.string (xs.getD i (0, E0)).2) := by
  obtain ⟨g, cap, hv, _⟩ := Kd.R_form h (by omega)
  have hA := (Value.slice.inj hv).1
  subst hA
  obtain ⟨_, _, hC⟩ := Kd.R_reads' h
  obtain ⟨b, o, hb, h0, h1⟩ := la_at hC i (by omega)
  injection hb with hb
  injection hb with hb ho
  subst hb; subst ho
  rw [Nat.zero_add] at h0 h1
  exact ⟨g, rfl, h0, h1⟩
theorem logA_at (h : Hist) (kept i : Nat) (hi : kept + i < h.length) : (logA (h.drop kept)).getD i (0, E0) = (((h.getD (kept + i) (0, E0)).1 : Int), full (h.getD (kept + i) (0, E0)).2) := by
  unfold logA
  rw [List.getD_eq_getElem?_getD, List.getElem?_map, List.getElem?_drop, List.getD_eq_getElem?_getD, List.getElem?_eq_getElem hi]
  rfl
end Go.Proofs.YteooldbdilkmeaaDoor.SC

namespace Go.Proofs.YteooldbdilkmeaaDoor.SC
open Go.RowKit Go.Maps Go.Proofs.YteooldbdilkmeaaDoorW.PrintWords Go.Proofs.YteooldbdilkmeaaDoorW.PrintLast Go.Proofs.YteooldbdilkmeaaDoorW.PrintMore
set_option linter.unusedVariables false
set_option linter.unusedSimpArgs false
theorem QAt.slice {W : World} {q n kept : Nat} {v : Value} {h : Hist} (H : QAt W q v n h kept) : ∃ A c, v = .slice A h.length c := by
  obtain ⟨A, c, e⟩ := Kd.R_slice H.row
  rw [logA_length] at e
  exact ⟨A, c, e⟩
theorem logA_get (h : Hist) (i : Nat) (hi : i < h.length) : (logA h).getD i (0, E0) = (((h.getD i (0, E0)).1 : Int), full (h.getD i (0, E0)).2) := by
  have := logA_at h 0 i (by omega)
  rw [List.drop_zero, Nat.zero_add] at this
  exact this
theorem QAt.at_ {W : World} {q n kept c : Nat} {A : Option Addr} {h : Hist} (H : QAt W q (.slice A h.length c) n h kept) (j : Nat) (hj : j < h.length) :
    ∃ g, A = some ⟨g, 0, none⟩ ∧ W.cell? ⟨g, j * 2, none⟩ = some (.int .i64 ((h.getD j (0, E0)).1 : Int)) ∧ W.cell? ⟨g, j * 2 + 1, none⟩ = some (.string (full (h.getD j (0, E0)).2)) := by
  obtain ⟨g, hA, h0, h1⟩ := OwnA.at_ H.row (logA_length h) j hj
  rw [logA_get h j hj] at h0 h1
  exact ⟨g, hA, h0, h1⟩
set_option maxHeartbeats 1000000 in
set_option maxRecDepth 100000 in
theorem qmark_calls {W : World} {q n kept : Nat} {v : Value} {h : Hist} (H : QAt W q v n h kept) :
    Calls Tryd.prog 22 #[.pointer (some ⟨q, 0, none⟩)] W fun e w' => e = .returned (.tuple #[]) ∧ QAt w' q v n h h.length ∧ OnlyQ q v W w' := by
  obtain ⟨A, c, rfl⟩ := H.slice
  have HQ := Lib.hid H
  obtain ⟨c0, c1, c2⟩ := H.cells
  have b0 := blk_frozen H.blk
  obtain ⟨m, hm⟩ : ∃ m, h.length = m := ⟨_, rfl⟩
  have HK := Lib.hid (blk_put H.blk 2 (.int .i64 (m : Int)) (cs' := #[.int .i64 (n : Int), .slice A h.length c, .int .i64 (m : Int)]) rfl)
  have Hm := Lib.hid hm
  rw [hm] at c1 HK
  rw [hm]
  clear H hm
  go_enter Tryd.func22, Tryd.ntmps22
  go_wp2
  go_end0
  have hg : W.grownBy (W.setCell ⟨q, 2, none⟩ (.int .i64 (m : Int))) (some q) := ⟨rfl, rfl, rfl, by simp [World.setCell], fun k hk hne => Below.heap_setCell W _ _ k (fun e => hne (by rw [show k = q from e]))⟩
  refine ⟨rfl, ⟨HK.out, kA_move (by have := HQ.out.row; rw [Hm.out] at this; exact this) fun k hk => Below.heap_setCell W _ _ k (fun e => ?_), by rw [Hm.out]; exact Nat.le_refl _, HQ.out.good, HQ.out.nn⟩, OnlyQ.grown hg (fun k hk => .inl (by injection hk with hk; exact hk.symm))⟩
  obtain ⟨cc, hc⟩ := HQ.out.own k (by rw [Hm.out]; exact hk)
  exact typed_ne hc HQ.out.blk (by decide) e
set_option maxHeartbeats 1000000 in
set_option maxRecDepth 100000 in
theorem qread_no {W : World} {q n kept : Nat} {v : Value} {h : Hist} (H : QAt W q v n h kept) (i : Int) (hi : ¬ (0 ≤ i ∧ i < n)) :
    Calls Tryd.prog 37 #[.pointer (some ⟨q, 0, none⟩), .int .i64 i] W fun e w' => e = .returned (.tuple #[.string E0, .int .i64 2]) ∧ Below W.heap.size W w' := by
  obtain ⟨c0, c1, c2⟩ := H.cells
  clear H
  by_cases h0 : i < 0
  · have hd := decide_eq_true h0
    clear hi
    go_enter Tryd.func37, Tryd.ntmps37
    go_wp2
    go_ret2
    exact ⟨rfl, Below.refl _ _⟩
  · have hd := decide_eq_false h0
    have hd2 := decide_eq_true (show (n : Int) ≤ i by omega)
    clear hi
    go_enter Tryd.func37, Tryd.ntmps37
    go_wp2
    go_ret2
    exact ⟨rfl, Below.refl _ _⟩
theorem cont_take_hit (h : Hist) (r i : Nat) (hr : r < h.length) (he : (h.getD r (0, E0)).1 = i) : cont (h.take (r + 1)) i = (h.getD r (0, E0)).2 := by
  have e : h.getD r (0, E0) = h[r] := by rw [List.getD_eq_getElem?_getD, List.getElem?_eq_getElem hr]; rfl
  rw [e] at he ⊢
  rw [take_next h r hr, show h[r] = ((h[r]).1, (h[r]).2) from rfl, cont_snoc]
  unfold upd
  rw [if_pos he.symm]
theorem cont_take_miss (h : Hist) (r i : Nat) (hr : r < h.length) (he : (h.getD r (0, E0)).1 ≠ i) : cont (h.take (r + 1)) i = cont (h.take r) i := by
  have e : h.getD r (0, E0) = h[r] := by rw [List.getD_eq_getElem?_getD, List.getElem?_eq_getElem hr]; rfl
  rw [e] at he
  rw [take_next h r hr, show h[r] = ((h[r]).1, (h[r]).2) from rfl, cont_snoc]
  unfold upd
  rw [if_neg (fun x => he x.symm)]
set_option maxHeartbeats 4000000 in
set_option maxRecDepth 100000 in
theorem qread_calls {W : World} {q n kept : Nat} {v : Value} {h : Hist} (H : QAt W q v n h kept) (hl : h.length ≤ 1000000) (i : Nat) (hi : i < n) :
    Calls Tryd.prog 37 #[.pointer (some ⟨q, 0, none⟩), .int .i64 (i : Int)] W fun e w' => e = .returned (.tuple #[.string (full (cont h i)), .int .i64 0]) ∧ Below W.heap.size W w' := by
  obtain ⟨A, c, rfl⟩ := H.slice
  have HQ := Lib.hid H
  have Hl := Lib.hid hl
  have HBk := Lib.hid blank_calls
  obtain ⟨c0, c1, c2⟩ := H.cells
  have hd := decide_eq_false (show ¬ (i : Int) < 0 by omega)
  have hd2 := decide_eq_false (show ¬ (n : Int) ≤ (i : Int) by omega)
  have hd2n := decide_eq_false (show ¬ n ≤ i by omega)
  obtain ⟨m, hm⟩ : ∃ m, h.length = m := ⟨_, rfl⟩
  have Hm := Lib.hid hm
  rw [hm] at c1
  have hwm : wrap64 ((m : Int) - 1) = (m : Int) - 1 := by clear hd hd2; unfold wrap64; omega
  have Hwm := Lib.hid hwm
  clear H hl hi hm
  go_enter Tryd.func37, Tryd.ntmps37
  go_wp2_with fail
  clear hwm c0 c2 hd hd2 hd2n
  go_loopw [6] (fun iv V => ∃ (r : Nat) (x : Int), r ≤ m ∧ iv = .int .i64 x ∧ x + 1 = (r : Int) ∧ V = W ∧ Aside0 (cont h i = cont (h.take r) i)) (fun iv _ => (ixOf iv + 1).toNat)
  case atStart => exact ⟨m, wrap64 ((m : Int) - 1), Nat.le_refl _, rfl, by rw [Hwm.out]; omega, rfl, ⟨by rw [← Hm.out, List.take_length]⟩⟩
  case round =>
    obtain ⟨r0, x, hr, rfl, hx, rfl, ⟨hc⟩⟩ := hrel
    have HCt := Lib.hid hc
    clear hc
    by_cases h0 : 0 < r0
    · obtain ⟨r, rfl⟩ : ∃ r, r0 = r + 1 := ⟨r0 - 1, by omega⟩
      obtain rfl : x = (r : Int) := by omega
      have hrm : r < h.length := by rw [Hm.out]; omega
      have hd := decide_eq_true (show (0 : Int) ≤ (r : Int) by omega)
      obtain ⟨g, hA, q0, q1⟩ := HQ.out.at_ r hrm
      subst hA
      have Hhit := Lib.hid (cont_take_hit h r i hrm)
      have Hmiss := Lib.hid (cont_take_miss h r i hrm)
      obtain ⟨a, ha⟩ : ∃ a : Nat, (h.getD r (0, E0)).1 = a := ⟨_, rfl⟩
      obtain ⟨s, hs⟩ : ∃ s, (h.getD r (0, E0)).2 = s := ⟨_, rfl⟩
      rw [ha] at q0 Hhit Hmiss
      rw [hs] at q1 Hhit
      obtain ⟨S, hS⟩ : ∃ S, full s = S := ⟨_, rfl⟩
      have HS := Lib.hid hS
      rw [hS] at q1
      have p1 : (0 ≤ (r : Int)) = True := eq_true (by omega)
      have p2 : ((r : Int) < (m : Int)) = True := eq_true (by omega)
      have hnx : wrap64 ((r : Int) - 1) = (r : Int) - 1 := by have := Hl.out; have := Hm.out; clear hd p1 p2 hx; unfold wrap64; omega
      have Hlt : Hid (r ≤ m) := Lib.hid (by omega)
      have Hnx := Lib.hid hnx
      clear ha hs hS hrm h0 hr hx hnx
      by_cases hai : a = i
      · have hb : ((a : Int) == (i : Int)) = true := by rw [hai]; exact beq_self_eq_true _
        have HE : Hid (cont h i = s) := Lib.hid (by rw [HCt.out]; exact Hhit.out hai)
        clear hai
        go_wp2
        go_ret2
        exact ⟨by rw [HE.out, HS.out]; rfl, Below.refl _ _⟩
      · have hb : ((a : Int) == (i : Int)) = false := int_beq_no (by omega)
        have hb2 : (a == i) = false := beq_false_of_ne hai
        have HE : Hid (cont h i = cont (h.take r) i) := Lib.hid (by rw [HCt.out]; exact Hmiss.out hai)
        clear hai
        go_wp2
        have hnx := Hnx.out
        go_roundw
        case rel => exact ⟨r, wrap64 ((r : Int) - 1), Hlt.out, by first | rfl | (rw [hnx]), by rw [hnx]; omega, by first | rfl | trivial, ⟨HE.out⟩⟩
        case measure => have h1 := Hlt.out; first | (rw [hnx]; simp [ixOf, Go.RowKit.intOf]; omega) | (simp [ixOf, Go.RowKit.intOf]; omega)
    · obtain rfl : r0 = 0 := by omega
      have hd := decide_eq_false (show ¬ (0 : Int) ≤ x by omega)
      have HE : Hid (cont h i = E0) := Lib.hid (by rw [HCt.out, List.take_zero]; rfl)
      clear h0 hr hx
      go_wp2_with fail
      refine (HBk.out _).mono ?_; rintro e w1 ⟨rfl, hb1⟩
      have HB1 := Lib.hid hb1
      clear hb1
      go_wp2
      go_ret2
      exact ⟨by rw [HE.out]; rfl, HB1.out⟩
end Go.Proofs.YteooldbdilkmeaaDoor.SC

namespace Go.Proofs.YteooldbdilkmeaaDoor.SC
open Go.RowKit Go.Maps Go.Proofs.YteooldbdilkmeaaDoorW.PrintWords Go.Proofs.YteooldbdilkmeaaDoorW.PrintLast Go.Proofs.YteooldbdilkmeaaDoorW.PrintMore
set_option linter.unusedVariables false
set_option linter.unusedSimpArgs false
theorem blank_tail (s : ByteArray) (h : s.size ≤ 512) : s ++ (full E0).extract s.size 512 = full s := by
  apply ext'
  rw [toL_append, ByteArray.data_extract, Array.toList_extract, full_toL s, full_zeros, zeros_toL]
  simp only [List.extract_eq_take_drop]
  rw [List.drop_replicate, List.take_replicate, Nat.min_self]
theorem logA_snoc (h : Hist) (a : Nat) (s : ByteArray) : logA (h ++ [(a, s)]) = logA h ++ [((a : Int), full s)] := by unfold logA; rw [List.map_append]; rfl
theorem row_ne_q {W : World} {q n kept : Nat} {v : Value} {h : Hist} (H : QAt W q v n h kept) : some q ≠ v.ownBlock := fun e => by
  obtain ⟨c, hc⟩ := H.own q e.symm
  exact typed_ne H.blk hc (by decide) rfl
set_option maxHeartbeats 1000000 in
set_option maxRecDepth 100000 in
theorem qwrite_no {W : World} {q n kept : Nat} {v : Value} {h : Hist} (H : QAt W q v n h kept) (i : Int) (hi : ¬ (0 ≤ i ∧ i < n)) (s : ByteArray) :
    Calls Tryd.prog 20 #[.pointer (some ⟨q, 0, none⟩), .int .i64 i, .string s] W fun e w' => e = .returned (.int .i64 2) ∧ Below W.heap.size W w' := by
  obtain ⟨c0, c1, c2⟩ := H.cells
  clear H
  by_cases h0 : i < 0
  · have hd := decide_eq_true h0
    clear hi
    go_enter Tryd.func20, Tryd.ntmps20
    go_wp2
    go_ret
    exact ⟨rfl, Below.refl _ _⟩
  · have hd := decide_eq_false h0
    have hd2 := decide_eq_true (show (n : Int) ≤ i by omega)
    clear hi
    go_enter Tryd.func20, Tryd.ntmps20
    go_wp2
    go_ret
    exact ⟨rfl, Below.refl _ _⟩
set_option maxHeartbeats 1000000 in
set_option maxRecDepth 100000 in
theorem qwrite_long {W : World} {q n kept : Nat} {v : Value} {h : Hist} (H : QAt W q v n h kept) (i : Int) (hi : 0 ≤ i ∧ i < n) (s : ByteArray) (hs : 512 < s.size) :
    Calls Tryd.prog 20 #[.pointer (some ⟨q, 0, none⟩), .int .i64 i, .string s] W fun e w' => e = .returned (.int .i64 3) ∧ Below W.heap.size W w' := by
  obtain ⟨c0, c1, c2⟩ := H.cells
  have hd := decide_eq_false (show ¬ i < 0 by omega)
  have hd2 := decide_eq_false (show ¬ (n : Int) ≤ i by omega)
  have hd3 : decide ((512 : Int) < (s.size : Int)) = true := decide_eq_true (by omega)
  have hd3n : decide (512 < s.size) = true := decide_eq_true hs
  clear H hi hs
  go_enter Tryd.func20, Tryd.ntmps20
  go_wp2
  go_ret
  exact ⟨rfl, Below.refl _ _⟩
set_option maxHeartbeats 2000000 in
set_option maxRecDepth 100000 in
theorem qwrite_ok {W : World} {q n kept : Nat} {v : Value} {h : Hist} (H : QAt W q v n h kept) (i : Nat) (hi : i < n) (s : ByteArray) (hs : s.size ≤ 512) (hl : h.length ≤ 1000000) :
    Calls Tryd.prog 20 #[.pointer (some ⟨q, 0, none⟩), .int .i64 (i : Int), .string s] W fun e w' => e = .returned (.int .i64 0) ∧ (∃ v', QAt w' q v' n (h ++ [(i, trim s)]) kept ∧ Moved W v v') ∧ OnlyQ q v W w' := by
  have HQ := Lib.hid H
  have HBk := Lib.hid blank_calls
  have HSl := Lib.hid (trim_slim s hs)
  have Hi := Lib.hid hi
  have Hl := Lib.hid hl
  obtain ⟨c0, c1, c2⟩ := H.cells
  have b0 := blk_frozen H.blk
  have hd := decide_eq_false (show ¬ (i : Int) < 0 by omega)
  have hd2 := decide_eq_false (show ¬ (n : Int) ≤ (i : Int) by omega)
  have hd2n := decide_eq_false (show ¬ n ≤ i by omega)
  have hd3 : decide ((512 : Int) < (s.size : Int)) = false := decide_eq_false (by omega)
  have hd3n : decide (512 < s.size) = false := decide_eq_false (by omega)
  have hz : (full E0).size = 512 := full_size _ (by decide)
  have htl := blank_tail s hs
  obtain ⟨Z, hZ⟩ : ∃ Z, full E0 = Z := ⟨_, rfl⟩
  rw [hZ] at hz htl HBk
  have hle : (s.size : Int) ≤ (Z.size : Int) := by omega
  have hsl : ∀ V, (Instr.slice 9 (.string Z) (some (.int .i64 (s.size : Int))) none none).run Tryd.prog V = .ok (.string (Z.extract s.size 512)) V := fun V => by
    rw [run_slice_string_l V 9 Z Tryd.underlying9 .i64 (s.size : Int) (by omega) hle, Int.toNat_natCast, hz]
  obtain ⟨T, hT⟩ : ∃ T, Z.extract s.size 512 = T := ⟨_, rfl⟩
  rw [hT] at htl hsl
  obtain ⟨S, hS⟩ : ∃ S, full s = S := ⟨_, rfl⟩
  rw [hS] at htl
  have hbd : ¬ (9223372036854775807 < s.size + T.size) := by
    have h1 : S.size = 512 := by rw [← hS]; exact full_size s hs
    have h2 : S.size = s.size + T.size := by rw [← htl, ByteArray.size_append]
    omega
  obtain ⟨lg, hlg⟩ : ∃ x, logA h ++ [((i : Int), S)] = x := ⟨_, rfl⟩
  have Hlg := Lib.hid hlg
  have HRow : Hid (logA (h ++ [(i, trim s)]) = lg) := Lib.hid (by rw [logA_snoc, full_trim s hs, hS, hlg])
  have Htl := Lib.hid htl
  clear H hi hs hl hZ hT hS hz hle hlg
  go_enter Tryd.func20, Tryd.ntmps20
  go_upto_region 5 with fail
  clear hd hd2 hd2n hd3 hd3n
  refine start_ (n := 18) (S := fun w' => w'.cell? ⟨q, 1, none⟩ = some (v)) (ds := [17]) #[false, false, false, false, false, false, false, false, false, false, false, false, false, false, false, false, false, false] (by kernel_rfl) rfl rfl (HQ.out.drew.cells.2.1) (fun hHeld => ?_)
  refine pure_ (i := 0) (N := some 20) (v := ?_) (a' := ?_) #[true, false, false, false, false, false, false, false, false, false, false, false, false, false, false, false, false, false] rfl rfl (by kernel_rfl) (fun _ _ _ h => h) (Or.inl ⟨by rfl, ?_⟩) ?_ ?_
  rotate_left
  · intro w'
    go_simp
    with_reducible rfl
  rotate_left
  · simp only [Act.put, List.setIfInBounds_toArray, List.set_cons_zero, List.set_cons_succ, i64_w, i32_w]
    rfl
  refine pure_ (i := 1) (N := some 21) (v := ?_) (a' := ?_) #[true, true, false, false, false, false, false, false, false, false, false, false, false, false, false, false, false, false] rfl rfl (by kernel_rfl) (fun _ _ _ h => h) (Or.inl ⟨by rfl, ?_⟩) ?_ ?_
  rotate_left
  · intro w'
    go_simp
    with_reducible rfl
  rotate_left
  · simp only [Act.put, List.setIfInBounds_toArray, List.set_cons_zero, List.set_cons_succ, i64_w, i32_w]
    rfl
  refine pure_ (i := 2) (N := some 22) (v := ?_) (a' := ?_) #[true, true, true, false, false, false, false, false, false, false, false, false, false, false, false, false, false, false] rfl rfl (by kernel_rfl) (fun _ _ _ h => h) (Or.inl ⟨by rfl, ?_⟩) ?_ ?_
  rotate_left
  · intro w'
    go_simp
    with_reducible rfl
  rotate_left
  · simp only [Act.put, List.setIfInBounds_toArray, List.set_cons_zero, List.set_cons_succ, i64_w, i32_w]
    rfl
  refine pure_ (i := 3) (N := some 23) (v := ?_) (a' := ?_) #[true, true, true, true, false, false, false, false, false, false, false, false, false, false, false, false, false, false] rfl rfl (by kernel_rfl) (fun _ _ _ h => h) (Or.inl ⟨by rfl, ?_⟩) ?_ ?_
  rotate_left
  · intro w'
    go_simp
    with_reducible rfl
  rotate_left
  · simp only [Act.put, List.setIfInBounds_toArray, List.set_cons_zero, List.set_cons_succ, i64_w, i32_w]
    rfl
  refine pure_ (i := 5) (N := some 25) (v := ?_) (a' := ?_) #[true, true, true, true, false, true, false, false, false, false, false, false, false, false, false, false, false, false] rfl rfl (by kernel_rfl) (fun _ _ _ h => h) (Or.inl ⟨by rfl, ?_⟩) ?_ ?_
  rotate_left
  · intro w'
    go_simp
    with_reducible rfl
  rotate_left
  · simp only [Act.put, List.setIfInBounds_toArray, List.set_cons_zero, List.set_cons_succ, i64_w, i32_w]
    rfl
  refine pure_ (i := 6) (N := some 26) (v := ?_) (a' := ?_) #[true, true, true, true, false, true, true, false, false, false, false, false, false, false, false, false, false, false] rfl rfl (by kernel_rfl) (fun _ _ _ h => h) (Or.inl ⟨by rfl, ?_⟩) ?_ ?_
  rotate_left
  · intro w'
    go_simp
    with_reducible rfl
  rotate_left
  · simp only [Act.put, List.setIfInBounds_toArray, List.set_cons_zero, List.set_cons_succ, i64_w, i32_w]
    rfl
  refine pure_ (i := 8) (N := some 28) (v := ?_) (a' := ?_) #[true, true, true, true, false, true, true, false, true, false, false, false, false, false, false, false, false, false] rfl rfl (by kernel_rfl) (fun _ _ _ h => h) (Or.inl ⟨by rfl, ?_⟩) ?_ ?_
  rotate_left
  · intro w'
    go_simp
    with_reducible rfl
  rotate_left
  · simp only [Act.put, List.setIfInBounds_toArray, List.set_cons_zero, List.set_cons_succ, i64_w, i32_w]
    rfl
  refine pure_ (i := 9) (N := some 29) (v := ?_) (a' := ?_) #[true, true, true, true, false, true, true, false, true, true, false, false, false, false, false, false, false, false] rfl rfl (by kernel_rfl) (fun _ _ _ h => h) (Or.inl ⟨by rfl, ?_⟩) ?_ ?_
  rotate_left
  · intro w'
    go_simp
    with_reducible rfl
  rotate_left
  · simp only [Act.put, List.setIfInBounds_toArray, List.set_cons_zero, List.set_cons_succ, i64_w, i32_w]
    rfl
  refine take_ (i := 4) (N := some 24) (v := ?_) (a' := ?_) #[true, true, true, true, true, true, true, false, true, true, false, false, false, false, false, false, false, false] rfl rfl (by kernel_rfl) (fun _ _ _ h => h) (Or.inl ⟨by rfl, ?_⟩) hHeld ?_ ?_
  rotate_left
  · intro w' s0
    go_simp
    with_reducible rfl
  rotate_left
  · simp only [Act.put, List.setIfInBounds_toArray, List.set_cons_zero, List.set_cons_succ, i64_w, i32_w]
    rfl
  refine one_ (i := 7) (N := some 27) #[true, true, true, true, true, true, true, true, true, true, false, false, false, false, false, false, false, false] rfl rfl (by kernel_rfl) (by decide) (fun K hK => ?_)
  refine goes_ Tryd.func35 (by kernel_rfl) rfl #[] (by rfl) rfl rfl (by simp only [List.map_toArray, List.map_cons, List.map_nil]) ?_
  with_reducible refine (HBk.out _).mono ?_
  rintro e w4 ⟨rfl, hb4⟩
  refine ⟨_, rfl, ?_⟩
  have HQ4 := Lib.hid (HQ.out.drew.below hb4 (Nat.le_refl _))
  have HB4 : Hid (Below W.heap.size W w4) := Lib.hid (below_step (below_drew (Below.refl _ _)) hb4)
  clear hb4
  refine hK.out _ _ (HQ4.out.cells.2.1) (fun hHeld => ?_)
  clear hK K
  refine norm_ (a' := ?_) ?_ ?_
  rotate_left
  · show Act.put _ (some 27) _ = _
    simp only [Act.put, List.setIfInBounds_toArray, List.set_cons_zero, List.set_cons_succ, i64_w, i32_w]
    rfl
  refine pure_ (i := 10) (N := some 30) (v := ?_) (a' := ?_) #[true, true, true, true, true, true, true, true, true, true, true, false, false, false, false, false, false, false] rfl rfl (by kernel_rfl) (fun _ _ _ h => h) (Or.inl ⟨by rfl, ?_⟩) ?_ ?_
  rotate_left
  · intro w'
    go_simp
    with_reducible rfl
  rotate_left
  · simp only [Act.put, List.setIfInBounds_toArray, List.set_cons_zero, List.set_cons_succ, i64_w, i32_w]
    rfl
  refine pure_ (i := 11) (N := some 31) (v := ?_) (a' := ?_) #[true, true, true, true, true, true, true, true, true, true, true, true, false, false, false, false, false, false] rfl rfl (by kernel_rfl) (fun _ _ _ h => h) (Or.inl ⟨by rfl, ?_⟩) ?_ ?_
  rotate_left
  · intro w'
    go_simp
    with_reducible rfl
  rotate_left
  · simp only [Act.put, List.setIfInBounds_toArray, List.set_cons_zero, List.set_cons_succ, i64_w, i32_w]
    rfl
  refine pure_ (i := 12) (N := some 32) (v := ?_) (a' := ?_) #[true, true, true, true, true, true, true, true, true, true, true, true, true, false, false, false, false, false] rfl rfl (by kernel_rfl) (fun _ _ _ h => h) (Or.inl ⟨by rfl, ?_⟩) ?_ ?_
  rotate_left
  · intro w'
    go_simp
    with_reducible rfl
  rotate_left
  · simp only [Act.put, List.setIfInBounds_toArray, List.set_cons_zero, List.set_cons_succ, i64_w, i32_w]
    rfl
  refine one_ (i := 13) (N := some 33) #[true, true, true, true, true, true, true, true, true, true, true, true, true, true, false, false, false, false] rfl rfl (by kernel_rfl) (by decide) (fun K hK => ?_)
  refine value_ (w1 := ?_) (v := ?_) (by rfl) rfl ?_ ?_
  rotate_left 2
  · go_simp
    constructor
    · rfl
    · rfl
  refine hK.out _ _ ((HQ4.out.alloc _).cells.2.1) (fun hHeld => ?_)
  clear hK K
  refine norm_ (a' := ?_) ?_ ?_
  rotate_left
  · show Act.put _ (some 33) _ = _
    simp only [Act.put, List.setIfInBounds_toArray, List.set_cons_zero, List.set_cons_succ, i64_w, i32_w]
    rfl
  refine one_ (i := 14) (N := some 34) #[true, true, true, true, true, true, true, true, true, true, true, true, true, true, true, false, false, false] rfl rfl (by kernel_rfl) (by decide) (fun K hK => ?_)
  refine Kd.R_append_step kA (w0 := w4) 0 (by rfl) (.tmp 24) (.tmp 33) 22 31 (.agg #[.int .i64 0, .string ByteArray.empty]) 24 rfl Tryd.underlying22 infoWa (by rfl) (by decide) (by decide) v (logA h) ((i : Int), S) (aCells ((i : Int), S)) (fun _ => True) (fun _ => False) (by rfl) (by rfl) (kA_mk _ _ _ _) (fun _ h => h.elim) (fun _ _ => trivial) HQ4.out.row (Below.refl _ _) (Nat.zero_le _) (by rw [logA_length]; have := Hl.out; omega) ?_
  intro v9 w9 hr9 hb9 hg9 hat9
  rw [Hlg.out] at hr9
  have t9 : w9.cell? ⟨q, 1, none⟩ = some v := blk_cell ((hg9.block q HQ4.out.lt.1 (row_ne_q HQ4.out)).trans HQ4.out.blk) 1
  have f9 := blk_frozen ((hg9.block q HQ4.out.lt.1 (row_ne_q HQ4.out)).trans HQ4.out.blk) 1
  obtain ⟨A9, c9, rfl⟩ := Kd.R_slice hr9
  refine hK.out _ _ (t9) (fun hHeld => ?_)
  clear hK K
  refine norm_ (a' := ?_) ?_ ?_
  rotate_left
  · show Act.put _ (some 34) _ = _
    simp only [Act.put, List.setIfInBounds_toArray, List.set_cons_zero, List.set_cons_succ, i64_w, i32_w]
    rfl
  refine pure_ (i := 15) (N := some 35) (v := ?_) (a' := ?_) #[true, true, true, true, true, true, true, true, true, true, true, true, true, true, true, true, false, false] rfl rfl (by kernel_rfl) (fun _ _ _ h => h) (Or.inl ⟨by rfl, ?_⟩) ?_ ?_
  rotate_left
  · intro w'
    go_simp
    with_reducible rfl
  rotate_left
  · simp only [Act.put, List.setIfInBounds_toArray, List.set_cons_zero, List.set_cons_succ, i64_w, i32_w]
    rfl
  refine pure_ (i := 16) (N := some 36) (v := ?_) (a' := ?_) #[true, true, true, true, true, true, true, true, true, true, true, true, true, true, true, true, true, false] rfl rfl (by kernel_rfl) (fun _ _ _ h => h) (Or.inl ⟨by rfl, ?_⟩) ?_ ?_
  rotate_left
  · intro w'
    go_simp
    with_reducible rfl
  rotate_left
  · simp only [Act.put, List.setIfInBounds_toArray, List.set_cons_zero, List.set_cons_succ, i64_w, i32_w]
    rfl
  refine last_ (i := 17) (N := none) #[true, true, true, true, true, true, true, true, true, true, true, true, true, true, true, true, true, true] rfl rfl (by kernel_rfl) (by decide) (fun K hK => ?_)
  refine skip_ (w1 := ?_) (by rfl) rfl ?_ ?_
  rotate_left
  · go_simp
    rfl
  refine hK.out _ _ ?_
  clear hK K
  refine done_ (by kernel_rfl) ?_
  clear hHeld
  obtain ⟨v9, hv9⟩ : ∃ x, Value.slice A9 lg.length c9 = x := ⟨_, rfl⟩
  rw [hv9] at hr9 hat9
  rw [hv9]
  clear hv9
  have hne := row_ne_q HQ.out
  have h9 : w9.heap[q]? = some (.cells #[.int .i64 (n : Int), v, .int .i64 (kept : Int)] 70 (0, 0)) := (hg9.block q HQ4.out.lt.1 hne).trans HQ4.out.blk
  have HK := Lib.hid (blk_put h9 1 v9 (cs' := #[.int .i64 (n : Int), v9, .int .i64 (kept : Int)]) rfl)
  have HF : Hid (QAt (w9.setCell ⟨q, 1, none⟩ v9) q v9 n (h ++ [(i, trim s)]) kept) := Lib.hid ⟨HK.out, by
      rw [HRow.out]
      refine kA_move hr9 fun k hk => Below.heap_setCell w9 _ _ k (fun e => ?_)
      obtain ⟨inner, ho⟩ := Kd.R_own hr9
      obtain ⟨cc, hc⟩ := own_typed ho k hk
      exact typed_ne hc h9 (by decide) e, by rw [List.length_append]; have := HQ.out.le; omega, HQ.out.good.snoc Hi.out HSl.out, HQ.out.nn⟩
  have HO : Hid (OnlyQ q v W (w9.setCell ⟨q, 1, none⟩ v9)) := Lib.hid (((OnlyQ.of HB4.out (Nat.le_refl _)).trans (OnlyQ.grown (v := v) hg9 (fun k hk => .inr (.inl hk.symm))) (Moved.refl _ _)).trans (OnlyQ.grown (v := v) (r := some q) ⟨rfl, rfl, rfl, by simp [World.setCell], fun k hk hne => Below.heap_setCell w9 _ _ k (fun e => hne (by rw [show k = q from e]))⟩ (fun k hk => .inl (by injection hk with hk; exact hk.symm))) (Moved.refl _ _))
  have HMv : Hid (Moved W v v9) := Lib.hid (by
    rcases hat9 with e | ⟨k, e, hk⟩
    · exact .inl e
    · exact .inr fun q hq => by rw [e] at hq; injection hq with hq; have := HB4.out.size; omega)
  clear hr9 hb9 hg9 hat9 h9 hne c0 c1 c2 b0
  go_wp2
  go_ret
  exact ⟨rfl, ⟨v9, HF.out, HMv.out⟩, HO.out⟩
theorem qwrite_any {W : World} {q n kept : Nat} {v : Value} {h : Hist} (H : QAt W q v n h kept) (x : Wa) (hl : h.length ≤ 1000000) :
    Calls Tryd.prog 20 #[.pointer (some ⟨q, 0, none⟩), .int .i64 x.1, .string x.2] W fun e w' => e = .returned (.int .i64 (wcode n x)) ∧ (∃ v', QAt w' q v' n (stepH n h x) kept ∧ Moved W v v') ∧ OnlyQ q v W w' := by
  obtain ⟨a, s⟩ := x
  by_cases h1 : 0 ≤ a ∧ a < n
  · by_cases h2 : s.size ≤ 512
    · obtain ⟨i, rfl⟩ : ∃ i : Nat, a = (i : Int) := ⟨a.toNat, by omega⟩
      have hk : okw n ((i : Int), s) := ⟨h1.1, h1.2, h2⟩
      rw [wcode_ok hk, stepH_ok hk]
      exact qwrite_ok H i (by omega) s h2 hl
    · have hk : ¬ okw n (a, s) := fun h => h2 h.2.2
      rw [stepH_no hk, show wcode n (a, s) = 3 by unfold wcode; rw [if_pos h1, if_neg h2]]
      exact (qwrite_long H a h1 s (by omega)).mono fun e w' ⟨he, hb⟩ => ⟨he, ⟨v, H.below hb (Nat.le_refl _), Moved.refl _ _⟩, OnlyQ.of hb (Nat.le_refl _)⟩
  · have hk : ¬ okw n (a, s) := fun h => h1 ⟨h.1, h.2.1⟩
    rw [stepH_no hk, show wcode n (a, s) = 2 by unfold wcode; rw [if_neg h1]]
    exact (qwrite_no H a h1 s).mono fun e w' ⟨he, hb⟩ => ⟨he, ⟨v, H.below hb (Nat.le_refl _), Moved.refl _ _⟩, OnlyQ.of hb (Nat.le_refl _)⟩
end Go.Proofs.YteooldbdilkmeaaDoor.SC

namespace Go.Proofs.YteooldbdilkmeaaDoor.SC
open Go.RowKit Go.Maps Go.Proofs.YteooldbdilkmeaaDoorW.PrintWords Go.Proofs.YteooldbdilkmeaaDoorW.PrintLast Go.Proofs.YteooldbdilkmeaaDoorW.PrintMore
set_option linter.unusedVariables false
set_option linter.unusedSimpArgs false
theorem C_from {W : World} {A : Option Addr} {n c : Nat} {xs : List Wa} (h : kA.C W A n xs) (hc : n ≤ c) (j : Nat) (hj : j ≤ n) : kA.C W (if c = j then A else A.map (·.add (j * 2))) (n - j) (xs.drop j) := by
  refine ⟨by rw [List.length_drop]; have := h.1; omega, by have := h.2.1; omega, fun h0 => ?_⟩
  obtain ⟨ad, e, hcell⟩ := h.2.2 (by omega)
  rw [if_neg (by omega), e]
  refine ⟨ad.add (j * 2), rfl, fun i p hi => ?_⟩
  rw [List.getElem?_drop] at hi
  obtain ⟨cs, h1, h2, h3⟩ := hcell (j + i) p hi
  refine ⟨cs, h1, h2, fun k u hu => ?_⟩
  rw [add_add, ← h3 k u hu]
  congr 2
  show j * 2 + (i * kA.sz + k) = (j + i) * kA.sz + k
  rw [show kA.sz = 2 from rfl]
  omega
theorem C_upto {W : World} {A : Option Addr} {n : Nat} {xs : List Wa} (h : kA.C W A n xs) (m : Nat) (hm : m ≤ n) : kA.C W A m (xs.take m) := by
  refine ⟨by rw [List.length_take]; have := h.1; omega, Nat.le_trans hm h.2.1, fun h0 => ?_⟩
  obtain ⟨ad, e, hc⟩ := h.2.2 (by omega)
  exact ⟨ad, e, fun j p hj => hc j p (by rw [List.getElem?_take] at hj; split at hj <;> simp_all)⟩
theorem logA_drop (h : Hist) (k : Nat) : logA (h.drop k) = (logA h).drop k := by unfold logA; rw [List.map_drop]
theorem logA_upto (h : Hist) (k : Nat) : logA (h.take k) = (logA h).take k := by unfold logA; rw [List.map_take]
theorem infoWaS : ∃ i : TypeInfo, Tryd.prog.info? 31 = some i ∧ i.size = 2 := by
  obtain ⟨i, h, hz⟩ := Option.map_eq_some_iff.1 infoWa
  simp only [Prod.mk.injEq] at hz
  exact ⟨i, h, hz.2.1⟩
set_option maxHeartbeats 1000000 in
set_option maxRecDepth 100000 in
theorem qlog_calls {W : World} {q n kept : Nat} {v : Value} {h : Hist} (H : QAt W q v n h kept) (hl : h.length ≤ 1000000) :
    Calls Tryd.prog 39 #[.pointer (some ⟨q, 0, none⟩)] W fun e w' => ∃ u, e = .returned u ∧ kA.R 31 w' W.heap.size (fun _ => True) u (logA (h.drop kept)) ∧ Below W.heap.size W w' := by
  have HQ := Lib.hid H
  have Hl := Lib.hid hl
  obtain ⟨A, c, hv, hcl, hC⟩ := Kd.R_reads H.row
  have hlen := logA_length h
  rw [hlen] at hv hcl hC
  obtain ⟨ti, hti, hts⟩ := infoWaS
  have hle := H.le
  have hsl : ∀ V, (Instr.slice 22 (.slice A h.length c) (some (.int .i64 (kept : Int))) none none).run Tryd.prog V = .ok (.slice (if c = kept then A else A.map (·.add (kept * 2))) (h.length - kept) (c - kept)) V := fun V => by
    have := cut_from (P := Tryd.prog) 22 31 .i64 Tryd.underlying22 hti 2 hts A h.length c (kept : Int) (by omega) (by omega) V
    rw [Int.toNat_natCast] at this
    exact this
  have HC := Lib.hid (C_from hC hcl kept hle)
  rw [← logA_drop] at HC
  obtain ⟨m, hm⟩ : ∃ m, h.length = m := ⟨_, rfl⟩
  have Hm := Lib.hid hm
  subst hv
  rw [hm] at hsl HC
  have HCs : Hid (∀ V, Below W.heap.size W V → V.cell? ⟨q, 1, none⟩ = some (.slice A m c) ∧ V.cell? ⟨q, 2, none⟩ = some (.int .i64 (kept : Int))) := Lib.hid (fun V hb => by
    have := (HQ.out.below hb (Nat.le_refl _)).cells
    rw [hm] at this
    exact this.2)
  obtain ⟨B, hB⟩ : ∃ B, (if c = kept then A else A.map (·.add (kept * 2))) = B := ⟨_, rfl⟩
  rw [hB] at hsl HC
  have hwl : (logA (h.drop kept)).length = m - kept := by rw [logA_length, List.length_drop, hm]
  have Hwl := Lib.hid hwl
  clear H hl hC hcl hlen hti hts hle hm hB hwl
  go_enter Tryd.func39, Tryd.ntmps39
  go_upto_region 2 with fail
  refine start_ (n := 12) (S := fun w' => w'.cell? ⟨q, 1, none⟩ = some (.slice A m c) ∧ w'.cell? ⟨q, 2, none⟩ = some (.int .i64 (kept : Int))) (ds := []) #[false, false, false, false, false, false, false, false, false, false, false, false] (by kernel_rfl) rfl rfl ⟨(HCs.out _ (below_drew (Below.refl _ _))).1, (HCs.out _ (below_drew (Below.refl _ _))).2⟩ (fun hHeld => ?_)
  refine pure_ (i := 0) (N := some 4) (v := ?_) (a' := ?_) #[true, false, false, false, false, false, false, false, false, false, false, false] rfl rfl (by kernel_rfl) (fun _ _ _ h => h) (Or.inl ⟨by rfl, ?_⟩) ?_ ?_
  rotate_left
  · intro w'
    go_simp
    with_reducible rfl
  rotate_left
  · simp only [Act.put, List.setIfInBounds_toArray, List.set_cons_zero, List.set_cons_succ, i64_w, i32_w]
    rfl
  refine pure_ (i := 1) (N := some 5) (v := ?_) (a' := ?_) #[true, true, false, false, false, false, false, false, false, false, false, false] rfl rfl (by kernel_rfl) (fun _ _ _ h => h) (Or.inl ⟨by rfl, ?_⟩) ?_ ?_
  rotate_left
  · intro w'
    go_simp
    with_reducible rfl
  rotate_left
  · simp only [Act.put, List.setIfInBounds_toArray, List.set_cons_zero, List.set_cons_succ, i64_w, i32_w]
    rfl
  refine pure_ (i := 2) (N := some 6) (v := ?_) (a' := ?_) #[true, true, true, false, false, false, false, false, false, false, false, false] rfl rfl (by kernel_rfl) (fun _ _ _ h => h) (Or.inl ⟨by rfl, ?_⟩) ?_ ?_
  rotate_left
  · intro w'
    go_simp
    with_reducible rfl
  rotate_left
  · simp only [Act.put, List.setIfInBounds_toArray, List.set_cons_zero, List.set_cons_succ, i64_w, i32_w]
    rfl
  refine pure_ (i := 3) (N := some 7) (v := ?_) (a' := ?_) #[true, true, true, true, false, false, false, false, false, false, false, false] rfl rfl (by kernel_rfl) (fun _ _ _ h => h) (Or.inl ⟨by rfl, ?_⟩) ?_ ?_
  rotate_left
  · intro w'
    go_simp
    with_reducible rfl
  rotate_left
  · simp only [Act.put, List.setIfInBounds_toArray, List.set_cons_zero, List.set_cons_succ, i64_w, i32_w]
    rfl
  refine pure_ (i := 5) (N := some 9) (v := ?_) (a' := ?_) #[true, true, true, true, false, true, false, false, false, false, false, false] rfl rfl (by kernel_rfl) (fun _ _ _ h => h) (Or.inl ⟨by rfl, ?_⟩) ?_ ?_
  rotate_left
  · intro w'
    go_simp
    with_reducible rfl
  rotate_left
  · simp only [Act.put, List.setIfInBounds_toArray, List.set_cons_zero, List.set_cons_succ, i64_w, i32_w]
    rfl
  refine pure_ (i := 6) (N := some 10) (v := ?_) (a' := ?_) #[true, true, true, true, false, true, true, false, false, false, false, false] rfl rfl (by kernel_rfl) (fun _ _ _ h => h) (Or.inl ⟨by rfl, ?_⟩) ?_ ?_
  rotate_left
  · intro w'
    go_simp
    with_reducible rfl
  rotate_left
  · simp only [Act.put, List.setIfInBounds_toArray, List.set_cons_zero, List.set_cons_succ, i64_w, i32_w]
    rfl
  refine pure_ (i := 7) (N := some 11) (v := ?_) (a' := ?_) #[true, true, true, true, false, true, true, true, false, false, false, false] rfl rfl (by kernel_rfl) (fun _ _ _ h => h) (Or.inl ⟨by rfl, ?_⟩) ?_ ?_
  rotate_left
  · intro w'
    go_simp
    with_reducible rfl
  rotate_left
  · simp only [Act.put, List.setIfInBounds_toArray, List.set_cons_zero, List.set_cons_succ, i64_w, i32_w]
    rfl
  refine take_ (i := 4) (N := some 8) (v := ?_) (a' := ?_) #[true, true, true, true, true, true, true, true, false, false, false, false] rfl rfl (by kernel_rfl) (fun _ _ _ h => h) (Or.inl ⟨by rfl, ?_⟩) hHeld ?_ ?_
  rotate_left
  · rintro w' ⟨s0, s1⟩
    go_simp
    with_reducible rfl
  rotate_left
  · simp only [Act.put, List.setIfInBounds_toArray, List.set_cons_zero, List.set_cons_succ, i64_w, i32_w]
    rfl
  refine take_ (i := 8) (N := some 12) (v := ?_) (a' := ?_) #[true, true, true, true, true, true, true, true, true, false, false, false] rfl rfl (by kernel_rfl) (fun _ _ _ h => h) (Or.inl ⟨by rfl, ?_⟩) hHeld ?_ ?_
  rotate_left
  · rintro w' ⟨s0, s1⟩
    go_simp
    with_reducible rfl
  rotate_left
  · simp only [Act.put, List.setIfInBounds_toArray, List.set_cons_zero, List.set_cons_succ, i64_w, i32_w]
    rfl
  refine pure_ (i := 9) (N := some 13) (v := ?_) (a' := ?_) #[true, true, true, true, true, true, true, true, true, true, false, false] rfl rfl (by kernel_rfl) (fun _ _ _ h => h) (Or.inl ⟨by rfl, ?_⟩) ?_ ?_
  rotate_left
  · intro w'
    go_simp
    with_reducible rfl
  rotate_left
  · simp only [Act.put, List.setIfInBounds_toArray, List.set_cons_zero, List.set_cons_succ, i64_w, i32_w]
    rfl
  refine one_ (i := 10) (N := some 14) #[true, true, true, true, true, true, true, true, true, true, true, false] rfl rfl (by kernel_rfl) (by decide) (fun K hK => ?_)
  refine Kd.R_append_rows_step kA (Rr := kA.K W.drew) (w0 := W) W.heap.size (by rfl) (.tmp 4) (.tmp 13) 22 31 (.agg #[.int .i64 0, .string ByteArray.empty]) 24 rfl Tryd.underlying22 infoWa (by rfl) (by decide) (by decide) (.slice none 0 0) [] (logA (h.drop kept)) B (m - kept) (c - kept) (fun _ => True) (fun _ => False) (by rfl) (by rfl) (Kd.R_nil _ _ _ _ _) (Kd.C_drew HC.out) (fun x cs hk => by rw [kA_open hk]; exact kA_mk _ _ _ _) (fun _ hk => hk.elim) (fun _ _ => trivial) (below_drew (Below.refl _ _)) (Nat.le_refl _) (by have := Hl.out; have := Hm.out; simp only [List.length_nil]; omega) ?_
  intro v9 w9 hr9 hb9 hg9 hat9
  have HR9 := Lib.hid hr9
  have HB9 := Lib.hid hb9
  have t9 := HCs.out _ hb9
  clear hr9 hb9 hg9 hat9
  refine hK.out _ _ ⟨t9.1, t9.2⟩ (fun hHeld => ?_)
  clear hK K
  refine norm_ (a' := ?_) ?_ ?_
  rotate_left
  · show Act.put _ (some 14) _ = _
    simp only [Act.put, List.setIfInBounds_toArray, List.set_cons_zero, List.set_cons_succ, i64_w, i32_w]
    rfl
  refine pure_ (i := 11) (N := some 2) (v := ?_) (a' := ?_) #[true, true, true, true, true, true, true, true, true, true, true, true] rfl rfl (by kernel_rfl) (fun _ _ _ h => h) (Or.inl ⟨by rfl, ?_⟩) ?_ ?_
  rotate_left
  · intro w'
    go_simp
    with_reducible rfl
  rotate_left
  · simp only [Act.put, List.setIfInBounds_toArray, List.set_cons_zero, List.set_cons_succ, i64_w, i32_w]
    rfl
  refine done_ (by kernel_rfl) ?_
  clear hHeld
  go_wp2
  go_ret
  exact ⟨_, rfl, by have := HR9.out; rw [List.nil_append] at this; exact this, HB9.out⟩
theorem neq_wa (a : Int) (s : ByteArray) (V : World) : (binOp .neq 31 (.agg #[.int .i64 a, .string s]) (.agg #[.int .i64 a, .string s])).run Tryd.prog V = .ok (.bool false) V := by
  have hss : (s == s) = true := by
    show (s.data == s.data) = true
    exact beq_self_eq_true _
  have h : (Op.equal 31 (.agg #[.int .i64 a, .string s]) (.agg #[.int .i64 a, .string s])).run Tryd.prog V = .ok (a == a && (s == s)) V := by
    refine eqA_of (d := 9999) Tryd.underlying31 (by kernel_rfl) ?_
    refine eqf_cons (by rfl) (by go_simp; rfl) (by go_simp; rfl) (by go_simp) ?_
    exact eqf_last (by rfl) (by go_simp; rfl) (by go_simp; rfl) (by go_simp)
  simp [binOp, h, hss]
set_option maxHeartbeats 2000000 in
set_option maxRecDepth 100000 in
theorem same20_calls {W : World} {A1 A2 : Option Addr} {N c1 c2 : Nat} {l : List Wa} (h1 : kA.C W A1 N l) (h2 : kA.C W A2 N l) (hl : N ≤ 1000000) :
    Calls Tryd.prog 40 #[.slice A1 N c1, .slice A2 N c2] W fun e w' => e = .returned (.bool true) ∧ Below W.heap.size W w' := by
  have H1 := Lib.hid h1
  have H2 := Lib.hid h2
  have HN := Lib.hid hl
  clear h1 h2 hl
  go_enter Tryd.func40, Tryd.ntmps40
  go_wp2_with fail
  go_loopw [5] (fun iv V => ∃ j : Nat, j ≤ N ∧ iv = .int .i64 (j : Int) ∧ Aside0 (Below W.heap.size W V)) (fun iv _ => N - (ixOf iv).toNat)
  case atStart => exact ⟨0, Nat.zero_le _, rfl, ⟨Below.refl _ _⟩⟩
  case round =>
    obtain ⟨j, hj, rfl, ⟨hb⟩⟩ := hrel
    have HB := Lib.hid hb
    clear hb
    by_cases hlt : j < N
    · have hd := decide_eq_true (show (j : Int) < (N : Int) by omega)
      have hdn := decide_eq_true hlt
      obtain ⟨b1, o1, rfl, q0, q1⟩ := la_at (Kd.C_below H1.out HB.out) j hlt
      obtain ⟨b2, o2, rfl, r0, r1⟩ := la_at (Kd.C_below H2.out HB.out) j hlt
      have hnw := neq_wa (l.getD j (0, E0)).1 (l.getD j (0, E0)).2
      obtain ⟨a, ha⟩ : ∃ a, (l.getD j (0, E0)).1 = a := ⟨_, rfl⟩
      obtain ⟨s, hs⟩ : ∃ s, (l.getD j (0, E0)).2 = s := ⟨_, rfl⟩
      rw [ha] at q0 r0 hnw
      rw [hs] at q1 r1 hnw
      have p1 : (0 ≤ (j : Int)) = True := eq_true (by omega)
      have p2 : ((j : Int) < (N : Int)) = True := eq_true (by omega)
      have hnx := nx_small (i := j) (by have := HN.out; omega)
      have Hlt := Lib.hid hlt
      have Hnx := Lib.hid hnx
      clear ha hs hlt hj hnx
      go_upto_region 6 with fail
      clear hd hdn
      refine start_ (n := 9) (S := fun w' => w'.cell? ⟨b1, o1 + j * 2, none⟩ = some (.int .i64 a) ∧ w'.cell? ⟨b1, o1 + j * 2 + 1, none⟩ = some (.string s) ∧ w'.cell? ⟨b2, o2 + j * 2, none⟩ = some (.int .i64 a) ∧ w'.cell? ⟨b2, o2 + j * 2 + 1, none⟩ = some (.string s)) (ds := []) #[false, false, false, false, false, false, false, false, false] (by kernel_rfl) rfl rfl ⟨q0, q1, r0, r1⟩ (fun hHeld => ?_)
      refine pure_ (i := 0) (N := some 17) (v := ?_) (a' := ?_) #[true, false, false, false, false, false, false, false, false] rfl rfl (by kernel_rfl) (fun _ _ _ h => h) (Or.inl ⟨by rfl, ?_⟩) ?_ ?_
      rotate_left
      · intro w'
        go_simp
        with_reducible rfl
      rotate_left
      · simp only [Act.put, List.setIfInBounds_toArray, List.set_cons_zero, List.set_cons_succ, i64_w, i32_w]
        rfl
      refine pure_ (i := 1) (N := some 18) (v := ?_) (a' := ?_) #[true, true, false, false, false, false, false, false, false] rfl rfl (by kernel_rfl) (fun _ _ _ h => h) (Or.inl ⟨by rfl, ?_⟩) ?_ ?_
      rotate_left
      · intro w'
        go_simp
        with_reducible rfl
      rotate_left
      · simp only [Act.put, List.setIfInBounds_toArray, List.set_cons_zero, List.set_cons_succ, i64_w, i32_w]
        rfl
      refine pure_ (i := 2) (N := some 19) (v := ?_) (a' := ?_) #[true, true, true, false, false, false, false, false, false] rfl rfl (by kernel_rfl) (fun _ _ _ h => h) (Or.inl ⟨by rfl, ?_⟩) ?_ ?_
      rotate_left
      · intro w'
        go_simp
        with_reducible rfl
      rotate_left
      · simp only [Act.put, List.setIfInBounds_toArray, List.set_cons_zero, List.set_cons_succ, i64_w, i32_w]
        rfl
      refine pure_ (i := 4) (N := some 21) (v := ?_) (a' := ?_) #[true, true, true, false, true, false, false, false, false] rfl rfl (by kernel_rfl) (fun _ _ _ h => h) (Or.inl ⟨by rfl, ?_⟩) ?_ ?_
      rotate_left
      · intro w'
        go_simp
        with_reducible rfl
      rotate_left
      · simp only [Act.put, List.setIfInBounds_toArray, List.set_cons_zero, List.set_cons_succ, i64_w, i32_w]
        rfl
      refine pure_ (i := 5) (N := some 22) (v := ?_) (a' := ?_) #[true, true, true, false, true, true, false, false, false] rfl rfl (by kernel_rfl) (fun _ _ _ h => h) (Or.inl ⟨by rfl, ?_⟩) ?_ ?_
      rotate_left
      · intro w'
        go_simp
        with_reducible rfl
      rotate_left
      · simp only [Act.put, List.setIfInBounds_toArray, List.set_cons_zero, List.set_cons_succ, i64_w, i32_w]
        rfl
      refine pure_ (i := 6) (N := some 23) (v := ?_) (a' := ?_) #[true, true, true, false, true, true, true, false, false] rfl rfl (by kernel_rfl) (fun _ _ _ h => h) (Or.inl ⟨by rfl, ?_⟩) ?_ ?_
      rotate_left
      · intro w'
        go_simp
        with_reducible rfl
      rotate_left
      · simp only [Act.put, List.setIfInBounds_toArray, List.set_cons_zero, List.set_cons_succ, i64_w, i32_w]
        rfl
      refine take_ (i := 3) (N := some 20) (v := ?_) (a' := ?_) #[true, true, true, true, true, true, true, false, false] rfl rfl (by kernel_rfl) (fun _ _ _ h => h) (Or.inl ⟨by rfl, ?_⟩) hHeld ?_ ?_
      rotate_left
      · rintro w' ⟨s0, s1, s2, s3⟩
        go_simp
        with_reducible rfl
      rotate_left
      · simp only [Act.put, List.setIfInBounds_toArray, List.set_cons_zero, List.set_cons_succ, i64_w, i32_w]
        rfl
      refine take_ (i := 7) (N := some 24) (v := ?_) (a' := ?_) #[true, true, true, true, true, true, true, true, false] rfl rfl (by kernel_rfl) (fun _ _ _ h => h) (Or.inl ⟨by rfl, ?_⟩) hHeld ?_ ?_
      rotate_left
      · rintro w' ⟨s0, s1, s2, s3⟩
        go_simp
        with_reducible rfl
      rotate_left
      · simp only [Act.put, List.setIfInBounds_toArray, List.set_cons_zero, List.set_cons_succ, i64_w, i32_w]
        rfl
      refine pure_ (i := 8) (N := some 25) (v := ?_) (a' := ?_) #[true, true, true, true, true, true, true, true, true] rfl rfl (by kernel_rfl) (fun _ _ _ h => h) (Or.inl ⟨by rfl, ?_⟩) ?_ ?_
      rotate_left
      · intro w'
        go_simp
        with_reducible rfl
      rotate_left
      · simp only [Act.put, List.setIfInBounds_toArray, List.set_cons_zero, List.set_cons_succ, i64_w, i32_w]
        rfl
      refine done_ (by kernel_rfl) ?_
      clear hHeld q0 q1 r0 r1 p1 p2 hnw
      have hnx := Hnx.out
      go_wp2
      go_roundw
      case rel => exact ⟨j + 1, Hlt.out, by first | rfl | (rw [hnx]; rfl), ⟨by first | exact HB.out | exact below_drew HB.out⟩⟩
      case measure => have h1 := Hlt.out; first | (rw [hnx]; simp [ixOf, Go.RowKit.intOf]; omega) | (simp [ixOf, Go.RowKit.intOf]; omega)
    · obtain rfl : j = N := by omega
      have hd := decide_eq_false (show ¬ (j : Int) < (j : Int) by omega)
      clear hlt hj
      go_wp2
      go_ret
      exact ⟨rfl, HB.out⟩
end Go.Proofs.YteooldbdilkmeaaDoor.SC

namespace Go.Proofs.YteooldbdilkmeaaDoor.SC
open Go.ChangeMaps Go.RowKit Go.Proofs.YteooldbdilkmeaaDoorW.PrintWords Go.Proofs.YteooldbdilkmeaaDoorW.PrintLast Go.Proofs.YteooldbdilkmeaaDoorW.PrintMore
set_option linter.unusedVariables false
set_option linter.unusedSimpArgs false
set_option maxHeartbeats 1000000 in
set_option maxRecDepth 100000 in
theorem qwrites_calls {W : World} {q n kept : Nat} {v : Value} {h : Hist} (H : QAt W q v n h kept) (hl : h.length ≤ 1000000) :
    Calls Tryd.prog 36 #[.pointer (some ⟨q, 0, none⟩)] W fun e w' => e = .returned (.int .i64 ((h.length - kept : Nat) : Int)) ∧ Below W.heap.size W w' := by
  obtain ⟨A, c, rfl⟩ := H.slice
  obtain ⟨c0, c1, c2⟩ := H.cells
  have hle := H.le
  have Hw : Hid (wrap64 ((h.length : Int) - (kept : Int)) = ((h.length - kept : Nat) : Int)) := Lib.hid (by unfold wrap64; omega)
  obtain ⟨m, hm⟩ : ∃ m, h.length = m := ⟨_, rfl⟩
  rw [hm] at c1 Hw
  rw [hm]
  clear H hl hle hm
  go_enter Tryd.func36, Tryd.ntmps36
  go_upto_region 1 with fail
  refine start_ (n := 11) (S := fun w' => w'.cell? ⟨q, 1, none⟩ = some (.slice A m c) ∧ w'.cell? ⟨q, 2, none⟩ = some (.int .i64 (kept : Int))) (ds := []) #[false, false, false, false, false, false, false, false, false, false, false] (by kernel_rfl) rfl rfl ⟨c1, c2⟩ (fun hHeld => ?_)
  refine pure_ (i := 0) (N := some 3) (v := ?_) (a' := ?_) #[true, false, false, false, false, false, false, false, false, false, false] rfl rfl (by kernel_rfl) (fun _ _ _ h => h) (Or.inl ⟨by rfl, ?_⟩) ?_ ?_
  rotate_left
  · intro w'
    go_simp
    with_reducible rfl
  rotate_left
  · simp only [Act.put, List.setIfInBounds_toArray, List.set_cons_zero, List.set_cons_succ, i64_w, i32_w]
    rfl
  refine pure_ (i := 1) (N := some 4) (v := ?_) (a' := ?_) #[true, true, false, false, false, false, false, false, false, false, false] rfl rfl (by kernel_rfl) (fun _ _ _ h => h) (Or.inl ⟨by rfl, ?_⟩) ?_ ?_
  rotate_left
  · intro w'
    go_simp
    with_reducible rfl
  rotate_left
  · simp only [Act.put, List.setIfInBounds_toArray, List.set_cons_zero, List.set_cons_succ, i64_w, i32_w]
    rfl
  refine pure_ (i := 2) (N := some 5) (v := ?_) (a' := ?_) #[true, true, true, false, false, false, false, false, false, false, false] rfl rfl (by kernel_rfl) (fun _ _ _ h => h) (Or.inl ⟨by rfl, ?_⟩) ?_ ?_
  rotate_left
  · intro w'
    go_simp
    with_reducible rfl
  rotate_left
  · simp only [Act.put, List.setIfInBounds_toArray, List.set_cons_zero, List.set_cons_succ, i64_w, i32_w]
    rfl
  refine pure_ (i := 5) (N := some 8) (v := ?_) (a' := ?_) #[true, true, true, false, false, true, false, false, false, false, false] rfl rfl (by kernel_rfl) (fun _ _ _ h => h) (Or.inl ⟨by rfl, ?_⟩) ?_ ?_
  rotate_left
  · intro w'
    go_simp
    with_reducible rfl
  rotate_left
  · simp only [Act.put, List.setIfInBounds_toArray, List.set_cons_zero, List.set_cons_succ, i64_w, i32_w]
    rfl
  refine pure_ (i := 6) (N := some 9) (v := ?_) (a' := ?_) #[true, true, true, false, false, true, true, false, false, false, false] rfl rfl (by kernel_rfl) (fun _ _ _ h => h) (Or.inl ⟨by rfl, ?_⟩) ?_ ?_
  rotate_left
  · intro w'
    go_simp
    with_reducible rfl
  rotate_left
  · simp only [Act.put, List.setIfInBounds_toArray, List.set_cons_zero, List.set_cons_succ, i64_w, i32_w]
    rfl
  refine pure_ (i := 7) (N := some 10) (v := ?_) (a' := ?_) #[true, true, true, false, false, true, true, true, false, false, false] rfl rfl (by kernel_rfl) (fun _ _ _ h => h) (Or.inl ⟨by rfl, ?_⟩) ?_ ?_
  rotate_left
  · intro w'
    go_simp
    with_reducible rfl
  rotate_left
  · simp only [Act.put, List.setIfInBounds_toArray, List.set_cons_zero, List.set_cons_succ, i64_w, i32_w]
    rfl
  refine take_ (i := 3) (N := some 6) (v := ?_) (a' := ?_) #[true, true, true, true, false, true, true, true, false, false, false] rfl rfl (by kernel_rfl) (fun _ _ _ h => h) (Or.inl ⟨by rfl, ?_⟩) hHeld ?_ ?_
  rotate_left
  · rintro w' ⟨s0, s1⟩
    go_simp
    with_reducible rfl
  rotate_left
  · simp only [Act.put, List.setIfInBounds_toArray, List.set_cons_zero, List.set_cons_succ, i64_w, i32_w]
    rfl
  refine pure_ (i := 4) (N := some 7) (v := ?_) (a' := ?_) #[true, true, true, true, true, true, true, true, false, false, false] rfl rfl (by kernel_rfl) (fun _ _ _ h => h) (Or.inl ⟨by rfl, ?_⟩) ?_ ?_
  rotate_left
  · intro w'
    go_simp
    with_reducible rfl
  rotate_left
  · simp only [Act.put, List.setIfInBounds_toArray, List.set_cons_zero, List.set_cons_succ, i64_w, i32_w]
    rfl
  refine take_ (i := 8) (N := some 11) (v := ?_) (a' := ?_) #[true, true, true, true, true, true, true, true, true, false, false] rfl rfl (by kernel_rfl) (fun _ _ _ h => h) (Or.inl ⟨by rfl, ?_⟩) hHeld ?_ ?_
  rotate_left
  · rintro w' ⟨s0, s1⟩
    go_simp
    with_reducible rfl
  rotate_left
  · simp only [Act.put, List.setIfInBounds_toArray, List.set_cons_zero, List.set_cons_succ, i64_w, i32_w]
    rfl
  refine pure_ (i := 9) (N := some 12) (v := ?_) (a' := ?_) #[true, true, true, true, true, true, true, true, true, true, false] rfl rfl (by kernel_rfl) (fun _ _ _ h => h) (Or.inl ⟨by rfl, ?_⟩) ?_ ?_
  rotate_left
  · intro w'
    go_simp
    with_reducible rfl
  rotate_left
  · simp only [Act.put, List.setIfInBounds_toArray, List.set_cons_zero, List.set_cons_succ, i64_w, i32_w]
    rfl
  refine pure_ (i := 10) (N := some 2) (v := ?_) (a' := ?_) #[true, true, true, true, true, true, true, true, true, true, true] rfl rfl (by kernel_rfl) (fun _ _ _ h => h) (Or.inl ⟨by rfl, ?_⟩) ?_ ?_
  rotate_left
  · intro w'
    go_simp
    with_reducible rfl
  rotate_left
  · simp only [Act.put, List.setIfInBounds_toArray, List.set_cons_zero, List.set_cons_succ, i64_w, i32_w]
    rfl
  refine done_ (by kernel_rfl) ?_
  clear hHeld
  go_wp2
  go_ret
  exact ⟨by rw [Hw.out]; rfl, by first | exact Below.refl _ _ | exact below_drew (Below.refl _ _)⟩
set_option maxHeartbeats 1000000 in
set_option maxRecDepth 100000 in
theorem qcopy_calls {W : World} {q n kept : Nat} {v : Value} {h : Hist} (H : QAt W q v n h kept) (hl : h.length ≤ 1000000) :
    Calls Tryd.prog 24 #[.pointer (some ⟨q, 0, none⟩)] W fun e w' => ∃ qc u, e = .returned (.pointer (some ⟨qc, 0, none⟩)) ∧ QAt w' qc u n h kept ∧ W.heap.size ≤ qc ∧ (∀ k, u.ownBlock = some k → W.heap.size ≤ k) ∧ Below W.heap.size W w' := by
  have HQ := Lib.hid H
  have Hl := Lib.hid hl
  obtain ⟨A, c, hv, hcl, hC⟩ := Kd.R_reads H.row
  have hlen := logA_length h
  rw [hlen] at hv hcl hC
  have HC := Lib.hid hC
  obtain ⟨m, hm⟩ : ∃ m, h.length = m := ⟨_, rfl⟩
  have Hm := Lib.hid hm
  subst hv
  have c1 := H.cells.2.1
  rw [hm] at HC c1
  clear H hl hC hcl hlen hm
  go_enter Tryd.func24, Tryd.ntmps24
  go_upto_region 3 with (at_builtin; refine Kd.R_append_rows kA (Rr := kA.K W) (w0 := W) W.heap.size rfl (.tmp 4) (.tmp 8) 22 31 (.agg #[.int .i64 0, .string ByteArray.empty]) 24 rfl Tryd.underlying22 infoWa rfl (by decide) (by decide) (.slice none 0 0) [] (logA h) A m c (fun _ => True) (fun _ => False) rfl rfl (Kd.R_nil _ _ _ _ _) HC.out (fun x cs hk => by rw [kA_open hk]; exact kA_mk _ _ _ _) (fun _ hk => hk.elim) (fun _ _ => trivial) (Below.refl _ _) (Nat.le_refl _) (by have := Hl.out; have := Hm.out; simp only [List.length_nil]; omega) ?_; intro u w2 hr2 hb2 _ _; have HR2 := Lib.hid hr2; have HB2 := Lib.hid hb2; clear hr2 hb2)
  rw [List.nil_append] at HR2
  have HQ2 := Lib.hid (HQ.out.below HB2.out (Nat.le_refl _))
  obtain ⟨Au, cu, hu⟩ := Kd.R_slice HR2.out
  rw [logA_length, Hm.out] at hu
  subst hu
  clear c1
  refine start_ (n := 12) (S := fun w' => w'.cell? ⟨q, 0, none⟩ = some (.int .i64 (n : Int)) ∧ w'.cell? ⟨q, 2, none⟩ = some (.int .i64 (kept : Int))) (ds := []) #[false, false, false, false, false, false, false, false, false, false, false, false] (by kernel_rfl) rfl rfl ⟨(HQ2.out.drew).cells.1, (HQ2.out.drew).cells.2.2⟩ (fun hHeld => ?_)
  refine pure_ (i := 0) (N := some 10) (v := ?_) (a' := ?_) #[true, false, false, false, false, false, false, false, false, false, false, false] rfl rfl (by kernel_rfl) (fun _ _ _ h => h) (Or.inl ⟨by rfl, ?_⟩) ?_ ?_
  rotate_left
  · intro w'
    go_simp
    with_reducible rfl
  rotate_left
  · simp only [Act.put, List.setIfInBounds_toArray, List.set_cons_zero, List.set_cons_succ, i64_w, i32_w]
    rfl
  refine pure_ (i := 1) (N := some 11) (v := ?_) (a' := ?_) #[true, true, false, false, false, false, false, false, false, false, false, false] rfl rfl (by kernel_rfl) (fun _ _ _ h => h) (Or.inl ⟨by rfl, ?_⟩) ?_ ?_
  rotate_left
  · intro w'
    go_simp
    with_reducible rfl
  rotate_left
  · simp only [Act.put, List.setIfInBounds_toArray, List.set_cons_zero, List.set_cons_succ, i64_w, i32_w]
    rfl
  refine pure_ (i := 2) (N := some 12) (v := ?_) (a' := ?_) #[true, true, true, false, false, false, false, false, false, false, false, false] rfl rfl (by kernel_rfl) (fun _ _ _ h => h) (Or.inl ⟨by rfl, ?_⟩) ?_ ?_
  rotate_left
  · intro w'
    go_simp
    with_reducible rfl
  rotate_left
  · simp only [Act.put, List.setIfInBounds_toArray, List.set_cons_zero, List.set_cons_succ, i64_w, i32_w]
    rfl
  refine pure_ (i := 4) (N := some 14) (v := ?_) (a' := ?_) #[true, true, true, false, true, false, false, false, false, false, false, false] rfl rfl (by kernel_rfl) (fun _ _ _ h => h) (Or.inl ⟨by rfl, ?_⟩) ?_ ?_
  rotate_left
  · intro w'
    go_simp
    with_reducible rfl
  rotate_left
  · simp only [Act.put, List.setIfInBounds_toArray, List.set_cons_zero, List.set_cons_succ, i64_w, i32_w]
    rfl
  refine pure_ (i := 5) (N := some 15) (v := ?_) (a' := ?_) #[true, true, true, false, true, true, false, false, false, false, false, false] rfl rfl (by kernel_rfl) (fun _ _ _ h => h) (Or.inl ⟨by rfl, ?_⟩) ?_ ?_
  rotate_left
  · intro w'
    go_simp
    with_reducible rfl
  rotate_left
  · simp only [Act.put, List.setIfInBounds_toArray, List.set_cons_zero, List.set_cons_succ, i64_w, i32_w]
    rfl
  refine pure_ (i := 6) (N := some 16) (v := ?_) (a' := ?_) #[true, true, true, false, true, true, true, false, false, false, false, false] rfl rfl (by kernel_rfl) (fun _ _ _ h => h) (Or.inl ⟨by rfl, ?_⟩) ?_ ?_
  rotate_left
  · intro w'
    go_simp
    with_reducible rfl
  rotate_left
  · simp only [Act.put, List.setIfInBounds_toArray, List.set_cons_zero, List.set_cons_succ, i64_w, i32_w]
    rfl
  refine pure_ (i := 7) (N := some 17) (v := ?_) (a' := ?_) #[true, true, true, false, true, true, true, true, false, false, false, false] rfl rfl (by kernel_rfl) (fun _ _ _ h => h) (Or.inl ⟨by rfl, ?_⟩) ?_ ?_
  rotate_left
  · intro w'
    go_simp
    with_reducible rfl
  rotate_left
  · simp only [Act.put, List.setIfInBounds_toArray, List.set_cons_zero, List.set_cons_succ, i64_w, i32_w]
    rfl
  refine take_ (i := 3) (N := some 13) (v := ?_) (a' := ?_) #[true, true, true, true, true, true, true, true, false, false, false, false] rfl rfl (by kernel_rfl) (fun _ _ _ h => h) (Or.inl ⟨by rfl, ?_⟩) hHeld ?_ ?_
  rotate_left
  · rintro w' ⟨s0, s1⟩
    go_simp
    with_reducible rfl
  rotate_left
  · simp only [Act.put, List.setIfInBounds_toArray, List.set_cons_zero, List.set_cons_succ, i64_w, i32_w]
    rfl
  refine take_ (i := 8) (N := some 18) (v := ?_) (a' := ?_) #[true, true, true, true, true, true, true, true, true, false, false, false] rfl rfl (by kernel_rfl) (fun _ _ _ h => h) (Or.inl ⟨by rfl, ?_⟩) hHeld ?_ ?_
  rotate_left
  · rintro w' ⟨s0, s1⟩
    go_simp
    with_reducible rfl
  rotate_left
  · simp only [Act.put, List.setIfInBounds_toArray, List.set_cons_zero, List.set_cons_succ, i64_w, i32_w]
    rfl
  refine pure_ (i := 9) (N := some 19) (v := ?_) (a' := ?_) #[true, true, true, true, true, true, true, true, true, true, false, false] rfl rfl (by kernel_rfl) (fun _ _ _ h => h) (Or.inl ⟨by rfl, ?_⟩) ?_ ?_
  rotate_left
  · intro w'
    go_simp
    with_reducible rfl
  rotate_left
  · simp only [Act.put, List.setIfInBounds_toArray, List.set_cons_zero, List.set_cons_succ, i64_w, i32_w]
    rfl
  refine one_ (i := 10) (N := some 20) #[true, true, true, true, true, true, true, true, true, true, true, false] rfl rfl (by kernel_rfl) (by decide) (fun K hK => ?_)
  refine value_ (w1 := ?_) (v := ?_) (by rfl) rfl ?_ ?_
  rotate_left 2
  · go_simp
    constructor
    · rfl
    · rfl
  refine hK.out _ _ ⟨(HQ2.out.drew.alloc _).cells.1, (HQ2.out.drew.alloc _).cells.2.2⟩ (fun hHeld => ?_)
  clear hK K
  refine norm_ (a' := ?_) ?_ ?_
  rotate_left
  · show Act.put _ (some 20) _ = _
    simp only [Act.put, List.setIfInBounds_toArray, List.set_cons_zero, List.set_cons_succ, i64_w, i32_w]
    rfl
  refine pure_ (i := 11) (N := some 2) (v := ?_) (a' := ?_) #[true, true, true, true, true, true, true, true, true, true, true, true] rfl rfl (by kernel_rfl) (fun _ _ _ h => h) (Or.inl ⟨by rfl, ?_⟩) ?_ ?_
  rotate_left
  · intro w'
    go_simp
    with_reducible rfl
  rotate_left
  · simp only [Act.put, List.setIfInBounds_toArray, List.set_cons_zero, List.set_cons_succ, i64_w, i32_w]
    rfl
  refine done_ (by kernel_rfl) ?_
  clear hHeld
  go_wp2
  go_ret
  have hcs : (w2.alloc (.cells #[.int .i64 (n : Int), .slice Au m cu, .int .i64 (kept : Int)] 70)).heap[w2.heap.size]? = some (.cells #[.int .i64 (n : Int), .slice Au m cu, .int .i64 (kept : Int)] 70 (0, 0)) := blk_new w2 _
  refine ⟨w2.heap.size, .slice Au m cu, rfl, ⟨hcs, kA_move (Kd.R_lower HR2.out (Nat.zero_le _)) (fun k hk => (below_alloc (Below.refl w2.heap.size w2) _).block k (Kd.R_lt HR2.out k hk)), HQ.out.le, HQ.out.good, HQ.out.nn⟩, HB2.out.size, fun k hk => Kd.R_base HR2.out k hk, by first | exact below_alloc HB2.out _ | exact below_drew (below_alloc HB2.out _)⟩
set_option maxHeartbeats 1000000 in
set_option maxRecDepth 100000 in
theorem qcut_no {W : World} {q n kept : Nat} {v : Value} {h : Hist} (H : QAt W q v n h kept) (hl : h.length ≤ 1000000) (k : Int) (hk : ¬ (0 ≤ k ∧ k ≤ ((h.length - kept : Nat) : Int))) :
    Calls Tryd.prog 23 #[.pointer (some ⟨q, 0, none⟩), .int .i64 k] W fun e w' => e = .returned (.tuple #[.pointer none, .int .i64 2]) ∧ Below W.heap.size W w' := by
  have HW := Lib.hid (qwrites_calls H hl)
  obtain ⟨m, hm⟩ : ∃ m, h.length - kept = m := ⟨_, rfl⟩
  rw [hm] at hk HW
  clear H hm hl
  by_cases h0 : k < 0
  · have hd := decide_eq_true h0
    clear hk h0
    go_enter Tryd.func23, Tryd.ntmps23
    go_wp2_with fail
    go_ret2
    exact ⟨rfl, Below.refl _ _⟩
  · have hd := decide_eq_false h0
    have hd2 : decide ((m : Int) < k) = true := decide_eq_true (by omega)
    clear hk h0
    go_enter Tryd.func23, Tryd.ntmps23
    go_wp2_with fail
    refine HW.out.mono ?_; rintro e w1 ⟨rfl, hb1⟩
    have HB1 := Lib.hid hb1
    clear hb1
    go_wp2_with fail
    go_ret2
    exact ⟨rfl, HB1.out⟩
set_option maxHeartbeats 1000000 in
set_option maxRecDepth 100000 in
theorem qcut_calls {W : World} {q n kept : Nat} {v : Value} {h : Hist} (H : QAt W q v n h kept) (hl : h.length ≤ 1000000) (k : Nat) (hk : kept + k ≤ h.length) :
    Calls Tryd.prog 23 #[.pointer (some ⟨q, 0, none⟩), .int .i64 (k : Int)] W fun e w' => ∃ qc u, e = .returned (.tuple #[.pointer (some ⟨qc, 0, none⟩), .int .i64 0]) ∧ QAt w' qc u n (h.take (kept + k)) (kept + k) ∧ W.heap.size ≤ qc ∧ (∀ j, u.ownBlock = some j → W.heap.size ≤ j) ∧ Below W.heap.size W w' := by
  have HQ := Lib.hid H
  have Hl := Lib.hid hl
  have HW := Lib.hid (qwrites_calls H hl)
  obtain ⟨A, c, hv, hcl, hC⟩ := Kd.R_reads H.row
  have hlen := logA_length h
  rw [hlen] at hv hcl hC
  obtain ⟨t, ht⟩ : ∃ t, kept + k = t := ⟨_, rfl⟩
  have Ht := Lib.hid ht
  have hd0 : decide ((k : Int) < 0) = false := decide_eq_false (by omega)
  have hd1 : decide (((h.length - kept : Nat) : Int) < (k : Int)) = false := decide_eq_false (by omega)
  have hd2 : decide (h.length - kept < k) = false := decide_eq_false (by omega)
  obtain ⟨ti, hti, hts⟩ := infoWaS
  have hsl := cut_to (P := Tryd.prog) 22 31 .i64 Tryd.underlying22 hti A h.length c (t : Int) (by omega) (by omega) hcl
  rw [Int.toNat_natCast] at hsl
  have HC := Lib.hid (C_upto hC t (by omega))
  rw [← logA_upto] at HC
  have HwT : wrap64 ((kept : Int) + (k : Int)) = (t : Int) := by clear hd0 hd1 hd2; unfold wrap64; omega
  have HT : Hid (t ≤ h.length ∧ t ≤ 1000000) := Lib.hid (by omega)
  obtain ⟨m, hm⟩ : ∃ m, h.length = m := ⟨_, rfl⟩
  have Hm := Lib.hid hm
  obtain ⟨x, hx⟩ : ∃ x, m - kept = x := ⟨_, rfl⟩
  subst hv
  rw [ht]
  rw [hm] at hsl hd1 hd2 HW
  rw [hx] at hd1 hd2 HW
  have HCs : Hid (∀ V, Below W.heap.size W V → V.cell? ⟨q, 1, none⟩ = some (.slice A m c) ∧ V.cell? ⟨q, 2, none⟩ = some (.int .i64 (kept : Int))) := Lib.hid (fun V hb => by
    have := (HQ.out.below hb (Nat.le_refl _)).cells
    rw [hm] at this
    exact this.2)
  clear H hl hC hcl hlen hti hts hm ht hx hk
  go_enter Tryd.func23, Tryd.ntmps23
  go_wp2_with fail
  refine HW.out.mono ?_; rintro e w1 ⟨rfl, hb1⟩
  have HB1 := Lib.hid hb1
  have HC1 := Lib.hid (Kd.C_below HC.out HB1.out)
  clear hb1 HW
  go_upto_region 4 with fail
  refine start_ (n := 14) (S := fun w' => w'.cell? ⟨q, 1, none⟩ = some (.slice A m c) ∧ w'.cell? ⟨q, 2, none⟩ = some (.int .i64 (kept : Int))) (ds := []) #[false, false, false, false, false, false, false, false, false, false, false, false, false, false] (by kernel_rfl) rfl rfl ⟨(HCs.out _ (below_drew HB1.out)).1, (HCs.out _ (below_drew HB1.out)).2⟩ (fun hHeld => ?_)
  refine pure_ (i := 0) (N := some 15) (v := ?_) (a' := ?_) #[true, false, false, false, false, false, false, false, false, false, false, false, false, false] rfl rfl (by kernel_rfl) (fun _ _ _ h => h) (Or.inl ⟨by rfl, ?_⟩) ?_ ?_
  rotate_left
  · intro w'
    go_simp
    with_reducible rfl
  rotate_left
  · simp only [Act.put, List.setIfInBounds_toArray, List.set_cons_zero, List.set_cons_succ, i64_w, i32_w]
    rfl
  refine pure_ (i := 1) (N := some 16) (v := ?_) (a' := ?_) #[true, true, false, false, false, false, false, false, false, false, false, false, false, false] rfl rfl (by kernel_rfl) (fun _ _ _ h => h) (Or.inl ⟨by rfl, ?_⟩) ?_ ?_
  rotate_left
  · intro w'
    go_simp
    with_reducible rfl
  rotate_left
  · simp only [Act.put, List.setIfInBounds_toArray, List.set_cons_zero, List.set_cons_succ, i64_w, i32_w]
    rfl
  refine pure_ (i := 2) (N := some 17) (v := ?_) (a' := ?_) #[true, true, true, false, false, false, false, false, false, false, false, false, false, false] rfl rfl (by kernel_rfl) (fun _ _ _ h => h) (Or.inl ⟨by rfl, ?_⟩) ?_ ?_
  rotate_left
  · intro w'
    go_simp
    with_reducible rfl
  rotate_left
  · simp only [Act.put, List.setIfInBounds_toArray, List.set_cons_zero, List.set_cons_succ, i64_w, i32_w]
    rfl
  refine pure_ (i := 3) (N := some 18) (v := ?_) (a' := ?_) #[true, true, true, true, false, false, false, false, false, false, false, false, false, false] rfl rfl (by kernel_rfl) (fun _ _ _ h => h) (Or.inl ⟨by rfl, ?_⟩) ?_ ?_
  rotate_left
  · intro w'
    go_simp
    with_reducible rfl
  rotate_left
  · simp only [Act.put, List.setIfInBounds_toArray, List.set_cons_zero, List.set_cons_succ, i64_w, i32_w]
    rfl
  refine pure_ (i := 5) (N := some 20) (v := ?_) (a' := ?_) #[true, true, true, true, false, true, false, false, false, false, false, false, false, false] rfl rfl (by kernel_rfl) (fun _ _ _ h => h) (Or.inl ⟨by rfl, ?_⟩) ?_ ?_
  rotate_left
  · intro w'
    go_simp
    with_reducible rfl
  rotate_left
  · simp only [Act.put, List.setIfInBounds_toArray, List.set_cons_zero, List.set_cons_succ, i64_w, i32_w]
    rfl
  refine pure_ (i := 6) (N := some 21) (v := ?_) (a' := ?_) #[true, true, true, true, false, true, true, false, false, false, false, false, false, false] rfl rfl (by kernel_rfl) (fun _ _ _ h => h) (Or.inl ⟨by rfl, ?_⟩) ?_ ?_
  rotate_left
  · intro w'
    go_simp
    with_reducible rfl
  rotate_left
  · simp only [Act.put, List.setIfInBounds_toArray, List.set_cons_zero, List.set_cons_succ, i64_w, i32_w]
    rfl
  refine pure_ (i := 7) (N := some 22) (v := ?_) (a' := ?_) #[true, true, true, true, false, true, true, true, false, false, false, false, false, false] rfl rfl (by kernel_rfl) (fun _ _ _ h => h) (Or.inl ⟨by rfl, ?_⟩) ?_ ?_
  rotate_left
  · intro w'
    go_simp
    with_reducible rfl
  rotate_left
  · simp only [Act.put, List.setIfInBounds_toArray, List.set_cons_zero, List.set_cons_succ, i64_w, i32_w]
    rfl
  refine pure_ (i := 9) (N := some 24) (v := ?_) (a' := ?_) #[true, true, true, true, false, true, true, true, false, true, false, false, false, false] rfl rfl (by kernel_rfl) (fun _ _ _ h => h) (Or.inl ⟨by rfl, ?_⟩) ?_ ?_
  rotate_left
  · intro w'
    go_simp
    with_reducible rfl
  rotate_left
  · simp only [Act.put, List.setIfInBounds_toArray, List.set_cons_zero, List.set_cons_succ, i64_w, i32_w]
    rfl
  refine take_ (i := 4) (N := some 19) (v := ?_) (a' := ?_) #[true, true, true, true, true, true, true, true, false, true, false, false, false, false] rfl rfl (by kernel_rfl) (fun _ _ _ h => h) (Or.inl ⟨by rfl, ?_⟩) hHeld ?_ ?_
  rotate_left
  · rintro w' ⟨s0, s1⟩
    go_simp
    with_reducible rfl
  rotate_left
  · simp only [Act.put, List.setIfInBounds_toArray, List.set_cons_zero, List.set_cons_succ, i64_w, i32_w]
    rfl
  refine take_ (i := 8) (N := some 23) (v := ?_) (a' := ?_) #[true, true, true, true, true, true, true, true, true, true, false, false, false, false] rfl rfl (by kernel_rfl) (fun _ _ _ h => h) (Or.inl ⟨by rfl, ?_⟩) hHeld ?_ ?_
  rotate_left
  · rintro w' ⟨s0, s1⟩
    go_simp
    with_reducible rfl
  rotate_left
  · simp only [Act.put, List.setIfInBounds_toArray, List.set_cons_zero, List.set_cons_succ, i64_w, i32_w]
    rfl
  refine pure_ (i := 10) (N := some 25) (v := ?_) (a' := ?_) #[true, true, true, true, true, true, true, true, true, true, true, false, false, false] rfl rfl (by kernel_rfl) (fun _ _ _ h => h) (Or.inl ⟨by rfl, ?_⟩) ?_ ?_
  rotate_left
  · intro w'
    go_simp
    with_reducible rfl
  rotate_left
  · simp only [Act.put, List.setIfInBounds_toArray, List.set_cons_zero, List.set_cons_succ, i64_w, i32_w]
    rfl
  refine pure_ (i := 11) (N := some 26) (v := ?_) (a' := ?_) #[true, true, true, true, true, true, true, true, true, true, true, true, false, false] rfl rfl (by kernel_rfl) (fun _ _ _ h => h) (Or.inl ⟨by rfl, ?_⟩) ?_ ?_
  rotate_left
  · intro w'
    go_simp
    with_reducible rfl
  rotate_left
  · simp only [Act.put, List.setIfInBounds_toArray, List.set_cons_zero, List.set_cons_succ, i64_w, i32_w]
    rfl
  refine one_ (i := 12) (N := some 27) #[true, true, true, true, true, true, true, true, true, true, true, true, true, false] rfl rfl (by kernel_rfl) (by decide) (fun K hK => ?_)
  refine Kd.R_append_rows_step kA (Rr := kA.K w1.drew) (w0 := W) W.heap.size (by rfl) (.tmp 15) (.tmp 26) 22 31 (.agg #[.int .i64 0, .string ByteArray.empty]) 24 rfl Tryd.underlying22 infoWa (by rfl) (by decide) (by decide) (.slice none 0 0) [] (logA (h.take t)) A t c (fun _ => True) (fun _ => False) (by rfl) (by rfl) (Kd.R_nil _ _ _ _ _) (Kd.C_drew HC1.out) (fun x cs hk => by rw [kA_open hk]; exact kA_mk _ _ _ _) (fun _ hk => hk.elim) (fun _ _ => trivial) (below_drew HB1.out) HB1.out.size (by have := HT.out.2; simp only [List.length_nil]; omega) ?_
  intro v9 w9 hr9 hb9 hg9 hat9
  have HR9 := Lib.hid hr9
  have HB9 := Lib.hid hb9
  have t9 := HCs.out _ hb9
  clear hr9 hb9 hg9 hat9
  refine hK.out _ _ ⟨t9.1, t9.2⟩ (fun hHeld => ?_)
  clear hK K
  refine norm_ (a' := ?_) ?_ ?_
  rotate_left
  · show Act.put _ (some 27) _ = _
    simp only [Act.put, List.setIfInBounds_toArray, List.set_cons_zero, List.set_cons_succ, i64_w, i32_w]
    rfl
  refine pure_ (i := 13) (N := some 6) (v := ?_) (a' := ?_) #[true, true, true, true, true, true, true, true, true, true, true, true, true, true] rfl rfl (by kernel_rfl) (fun _ _ _ h => h) (Or.inl ⟨by rfl, ?_⟩) ?_ ?_
  rotate_left
  · intro w'
    go_simp
    with_reducible rfl
  rotate_left
  · simp only [Act.put, List.setIfInBounds_toArray, List.set_cons_zero, List.set_cons_succ, i64_w, i32_w]
    rfl
  refine done_ (by kernel_rfl) ?_
  clear hHeld hd0 hd1 hd2 hsl HwT
  have HQ9 := Lib.hid (HQ.out.below HB9.out (Nat.le_refl _))
  have c0 := HQ9.out.cells.1
  rw [List.nil_append] at HR9
  have hrl : (logA (h.take t)).length = t := by rw [logA_length, List.length_take]; have := HT.out.1; omega
  obtain ⟨Au, cu, hu⟩ := Kd.R_slice HR9.out
  rw [hrl] at hu
  subst hu
  go_wp2
  go_ret2
  have hcs : (w9.alloc (.cells #[.int .i64 (n : Int), .slice Au t cu, .int .i64 (t : Int)] 70)).heap[w9.heap.size]? = some (.cells #[.int .i64 (n : Int), .slice Au t cu, .int .i64 (t : Int)] 70 (0, 0)) := blk_new w9 _
  refine ⟨w9.heap.size, .slice Au t cu, rfl, ⟨hcs, kA_move (Kd.R_lower HR9.out (Nat.zero_le _)) (fun k hk => (below_alloc (Below.refl w9.heap.size w9) _).block k (Kd.R_lt HR9.out k hk)), by rw [List.length_take]; have := HT.out.1; omega, HQ.out.good.take t, HQ.out.nn⟩, HB9.out.size, fun k hk => Kd.R_base HR9.out k hk, below_alloc HB9.out _⟩
end Go.Proofs.YteooldbdilkmeaaDoor.SC

namespace Go.Proofs.YteooldbdilkmeaaDoor.SC
open Go.ChangeMaps Go.RowKit Go.Proofs.YteooldbdilkmeaaDoorW.PrintWords Go.Proofs.YteooldbdilkmeaaDoorW.PrintLast Go.Proofs.YteooldbdilkmeaaDoorW.PrintMore
set_option linter.unusedVariables false
set_option linter.unusedSimpArgs false
def Ins (h : Hist) (i : Nat) (us : List Nat) : Prop := us.Pairwise (· < ·) ∧ ∀ x, x ∈ us ↔ (∃ j, j < i ∧ (h.getD j (0, E0)).1 = x) ∧ cont h x ≠ E0
def usN (us : List Nat) : List Int := us.map fun (i : Nat) => (i : Int)
theorem usN_length (us : List Nat) : (usN us).length = us.length := by simp [usN]
theorem usN_used (n : Nat) (f : Nat → ByteArray) : usN (used n f) = usedI n f := rfl
theorem usN_at (us : List Nat) (k : Nat) : Go.Proofs.YteooldbdilkmeaaDoorW.PrintWords.rd (usN us) (k : Int) = ((us.getD k 0 : Nat) : Int) := by
  unfold Go.Proofs.YteooldbdilkmeaaDoorW.PrintWords.rd usN
  rw [Int.toNat_natCast, List.getD_eq_getElem?_getD, List.getD_eq_getElem?_getD, List.getElem?_map]
  cases us[k]? <;> rfl
theorem Ins.zero (h : Hist) : Ins h 0 [] := ⟨List.Pairwise.nil, fun x => ⟨fun hx => (by cases hx), fun ⟨⟨j, hj, _⟩, _⟩ => absurd hj (Nat.not_lt_zero _)⟩⟩
theorem before_next (h : Hist) (i x : Nat) : (∃ j, j < i + 1 ∧ (h.getD j (0, E0)).1 = x) ↔ (∃ j, j < i ∧ (h.getD j (0, E0)).1 = x) ∨ (h.getD i (0, E0)).1 = x := by
  constructor
  · rintro ⟨j, hj, e⟩
    by_cases h1 : j = i
    · rw [h1] at e; exact .inr e
    · exact .inl ⟨j, by omega, e⟩
  · rintro (⟨j, hj, e⟩ | e)
    · exact ⟨j, by omega, e⟩
    · exact ⟨i, by omega, e⟩
theorem Ins.none {h : Hist} {i a : Nat} {us : List Nat} (H : Ins h i us) (ha : (h.getD i (0, E0)).1 = a) (hc : cont h a = E0) : Ins h (i + 1) us := by
  refine ⟨H.1, fun x => ?_⟩
  rw [H.2 x, before_next, ha]
  constructor
  · rintro ⟨h1, h2⟩; exact ⟨.inl h1, h2⟩
  · rintro ⟨h1 | h1, h2⟩
    · exact ⟨h1, h2⟩
    · rw [← h1] at h2; exact absurd hc h2
theorem Ins.there {h : Hist} {i a : Nat} {us : List Nat} (H : Ins h i us) (ha : (h.getD i (0, E0)).1 = a) (hm : a ∈ us) : Ins h (i + 1) us := by
  refine ⟨H.1, fun x => ?_⟩
  rw [before_next, ha]
  constructor
  · intro hx
    have := (H.2 x).1 hx
    exact ⟨.inl this.1, this.2⟩
  · rintro ⟨h1 | h1, h2⟩
    · exact (H.2 x).2 ⟨h1, h2⟩
    · rw [← h1]; exact hm
theorem mem_split_at (us : List Nat) (k a x : Nat) : x ∈ us.take k ++ [a] ++ us.drop k ↔ x = a ∨ x ∈ us := by
  conv => rhs; rw [← List.take_append_drop k us]
  simp only [List.mem_append, List.mem_singleton]
  constructor
  · rintro ((h | h) | h)
    · exact .inr (.inl h)
    · exact .inl h
    · exact .inr (.inr h)
  · rintro (h | h | h)
    · exact .inl (.inr h)
    · exact .inl (.inl h)
    · exact .inr h
theorem Ins.put {h : Hist} {i a k : Nat} {us : List Nat} (H : Ins h i us) (ha : (h.getD i (0, E0)).1 = a) (hc : cont h a ≠ E0) (hk : k ≤ us.length) (h1 : ∀ j, j < k → us.getD j 0 < a) (h2 : k < us.length → a < us.getD k 0) : Ins h (i + 1) (us.take k ++ [a] ++ us.drop k) := by
  have hp := H.1
  have hp0 := hp
  rw [← List.take_append_drop k us, List.pairwise_append] at hp
  obtain ⟨pt, pd, pc⟩ := hp
  have ht : ∀ x ∈ us.take k, x < a := fun x hx => by
    obtain ⟨j, hj⟩ := List.getElem?_of_mem hx
    have hjk : j < k := by
      have := (List.getElem?_eq_some_iff.1 hj).1
      rw [List.length_take] at this
      omega
    rw [List.getElem?_take, if_pos hjk] at hj
    have := h1 j hjk
    rw [List.getD_eq_getElem?_getD, hj] at this
    exact this
  have hd : ∀ x ∈ us.drop k, a < x := fun x hx => by
    by_cases hkl : k < us.length
    · have h0 := h2 hkl
      rw [List.drop_eq_getElem_cons hkl] at hx pd
      rw [List.getD_eq_getElem?_getD, List.getElem?_eq_getElem hkl] at h0
      have h0 : a < us[k] := h0
      rcases List.mem_cons.1 hx with e | e
      · rw [e]; exact h0
      · have := (List.pairwise_cons.1 pd).1 x e
        omega
    · rw [List.drop_of_length_le (by omega)] at hx
      cases hx
  refine ⟨?_, fun x => ?_⟩
  · rw [List.pairwise_append, List.pairwise_append]
    refine ⟨⟨pt, List.pairwise_singleton _ _, fun x hx y hy => ?_⟩, pd, fun x hx y hy => ?_⟩
    · rw [List.mem_singleton.1 hy]; exact ht x hx
    · rcases List.mem_append.1 hx with e | e
      · exact pc x e y hy
      · rw [List.mem_singleton.1 e]; exact hd y hy
  · rw [mem_split_at, before_next, ha, H.2 x]
    constructor
    · rintro (e | ⟨e1, e2⟩)
      · rw [e]; exact ⟨.inr rfl, hc⟩
      · exact ⟨.inl e1, e2⟩
    · rintro ⟨e | e, e2⟩
      · exact .inr ⟨e, e2⟩
      · exact .inl e.symm
theorem cont_never : ∀ (h : Hist) (x : Nat), (∀ j, j < h.length → (h.getD j (0, E0)).1 ≠ x) → cont h x = E0 := snoc_ind (fun x _ => rfl) fun h a s ih x hx => by
  rw [cont_snoc]
  unfold upd
  have h1 := hx h.length (by simp)
  rw [List.getD_eq_getElem?_getD, List.getElem?_append_right (Nat.le_refl _), Nat.sub_self] at h1
  rw [if_neg (fun e => h1 e.symm)]
  refine ih x fun j hj e => hx j (by rw [List.length_append]; omega) ?_
  rw [List.getD_eq_getElem?_getD, List.getElem?_append_left hj, ← List.getD_eq_getElem?_getD]
  exact e
theorem Ins.done {n : Nat} {h : Hist} {us : List Nat} (g : Good n h) (H : Ins h h.length us) : us = used n (cont h) := by
  refine rising_eq H.1 (used_sorted _ _) fun x => ?_
  rw [H.2 x, used_mem]
  constructor
  · rintro ⟨⟨j, hj, e⟩, h2⟩
    refine ⟨?_, h2⟩
    have := g h[j] (List.getElem_mem hj)
    rw [List.getD_eq_getElem?_getD, List.getElem?_eq_getElem hj] at e
    have e : (h[j]).1 = x := e
    rw [← e]
    exact this.1
  · rintro ⟨h1, h2⟩
    refine ⟨?_, h2⟩
    refine Classical.byContradiction fun hno => h2 (cont_never h x fun j hj e => hno ⟨j, hj, e⟩)
theorem Ins.len {h : Hist} {i : Nat} {us : List Nat} (H : Ins h i us) {n : Nat} (g : Good n h) (hi : i ≤ h.length) : us.length ≤ n := by
  have hs : ∀ x ∈ us, x ∈ List.range n := fun x hx => by
    obtain ⟨⟨j, hj, e⟩, _⟩ := (H.2 x).1 hx
    have hjl : j < h.length := by omega
    have := g h[j] (List.getElem_mem hjl)
    rw [List.getD_eq_getElem?_getD, List.getElem?_eq_getElem hjl] at e
    have e : (h[j]).1 = x := e
    rw [← e]
    exact List.mem_range.2 this.1
  have he : us = (List.range n).filter fun x => decide (x ∈ us) := rising_eq H.1 (List.Pairwise.filter _ List.pairwise_lt_range) fun x => by
    rw [List.mem_filter, decide_eq_true_iff]
    exact ⟨fun hx => ⟨hs x hx, hx⟩, fun hx => hx.2⟩
  have := List.length_filter_le (fun x => decide (x ∈ us)) (List.range n)
  rw [← he, List.length_range] at this
  exact this
theorem ReadsInt.from_ {W : World} {A : Option Addr} {N c : Nat} {l : List Int} (h : ReadsInt W .i64 A N l) (hc : N ≤ c) (k : Nat) (hk : k ≤ N) : ReadsInt W .i64 (if c = k then A else A.map (·.add (k * 1))) (N - k) (l.drop k) := by
  refine ⟨by rw [List.length_drop, h.1], by have := h.2.1; omega, fun h0 => ?_⟩
  obtain ⟨ad, rfl, hr⟩ := h.2.2 (by omega)
  rw [if_neg (by omega)]
  refine ⟨ad.add (k * 1), rfl, fun j hj => ?_⟩
  rw [Nat.mul_one, Go.Deep.add_add, hr (k + j) (by omega)]
  congr 2
  rw [List.getD_eq_getElem?_getD, List.getD_eq_getElem?_getD, List.getElem?_drop]
theorem ReadsInt.upto_ {W : World} {A : Option Addr} {N : Nat} {l : List Int} (h : ReadsInt W .i64 A N l) (k : Nat) (hk : k ≤ N) : ReadsInt W .i64 A k (l.take k) := by
  refine ⟨by rw [List.length_take, h.1]; omega, by have := h.2.1; omega, fun h0 => ?_⟩
  obtain ⟨ad, rfl, hr⟩ := h.2.2 (by omega)
  refine ⟨ad, rfl, fun j hj => ?_⟩
  rw [hr j (by omega)]
  congr 2
  rw [List.getD_eq_getElem?_getD, List.getD_eq_getElem?_getD, List.getElem?_take, if_pos hj]
end Go.Proofs.YteooldbdilkmeaaDoor.SC

namespace Go.Proofs.YteooldbdilkmeaaDoor.SC
open Go.ChangeMaps Go.RowKit Go.Proofs.YteooldbdilkmeaaDoorW.PrintWords Go.Proofs.YteooldbdilkmeaaDoorW.PrintLast Go.Proofs.YteooldbdilkmeaaDoorW.PrintMore
set_option linter.unusedVariables false
set_option linter.unusedSimpArgs false
theorem infoIntS : (Tryd.prog.info? 3).map (fun i => (i.zero, i.size, i.bytes)) = some (some (.int .i64 0), 1, 8) := by kernel_rfl
theorem infoIntS1 : ∃ i : TypeInfo, Tryd.prog.info? 3 = some i ∧ i.size = 1 := by
  obtain ⟨i, h, hz⟩ := Option.map_eq_some_iff.1 infoIntS
  simp only [Prod.mk.injEq] at hz
  exact ⟨i, h, hz.2.1⟩
theorem toList_inj20 {s t : ByteArray} (h : s.toList = t.toList) (e1 : s.toList = s.data.toList) (e2 : t.toList = t.data.toList) : s = t := by
  rw [e1, e2] at h
  exact ByteArray.ext (Array.toList_inj.1 h)
theorem loop_eq20 (s : ByteArray) : ∀ n i (r : List UInt8), s.size - i = n → ByteArray.toList.loop s i r = r.reverse ++ s.data.toList.drop i := by
  intro n
  induction n with
  | zero =>
    intro i r h
    unfold ByteArray.toList.loop
    have hs : s.data.toList.length = s.size := by rw [Array.length_toList]; rfl
    rw [if_neg (by omega), List.drop_eq_nil_of_le (by omega), List.append_nil]
  | succ n ih =>
    intro i r h
    unfold ByteArray.toList.loop
    have hi : i < s.size := by omega
    rw [if_pos hi, ih (i + 1) _ (by omega)]
    have hi' : i < s.data.toList.length := by rw [Array.length_toList]; exact hi
    rw [List.drop_eq_getElem_cons hi']
    simp [ByteArray.get!, hi]
theorem toList_eq20 (s : ByteArray) : s.toList = s.data.toList := by
  have := loop_eq20 s s.size 0 [] rfl
  simpa [ByteArray.toList] using this
set_option maxHeartbeats 4000000 in
set_option maxRecDepth 100000 in
theorem qused_calls {W : World} {q n kept : Nat} {v : Value} {h : Hist} (H : QAt W q v n h kept) (hl : h.length ≤ 1000000) :
    Calls Tryd.prog 38 #[.pointer (some ⟨q, 0, none⟩)] W fun e w' => ∃ u, e = .returned u ∧ w'.ownsRow W.heap.size 3 1 u (usedI n (cont h)).length (nums .i64 (usedI n (cont h))) ∧ Below W.heap.size W w' := by
  obtain ⟨A, c, rfl⟩ := H.slice
  have HQ := Lib.hid H
  have HRd := Lib.hid (fun V (hb : Below W.heap.size W V) i (hi : i < n) => qread_calls (H.below hb (Nat.le_refl _)) hl i hi)
  have HBk := Lib.hid blank_calls
  have Hl := Lib.hid hl
  have HNN := Lib.hid H.nn
  have Hti : Hid (∃ i : TypeInfo, Tryd.prog.info? 3 = some i ∧ i.size = 1) := Lib.hid infoIntS1
  obtain ⟨ti, hti⟩ := Hti.out
  have Hti := Lib.hid hti
  obtain ⟨m, hm⟩ : ∃ m, h.length = m := ⟨_, rfl⟩
  have Hm := Lib.hid hm
  have HQc : Hid (∀ V, Below W.heap.size W V → V.cell? ⟨q, 1, none⟩ = some (.slice A m c)) := Lib.hid (fun V hb => by
    have := (HQ.out.below hb (Nat.le_refl _)).cells.2.1
    rw [hm] at this
    exact this)
  have HR0 : Hid (W.ownsRow W.heap.size 3 1 (.slice none 0 0) ([] : List Nat).length (nums .i64 (usN []))) := Lib.hid (own_nil _ _ _ _)
  clear H hl hm hti
  go_enter Tryd.func38, Tryd.ntmps38
  go_wp2_with fail
  go_loopw [4, 3] (fun iv ov V => ∃ (i : Nat) (us : List Nat), i ≤ m ∧ iv = .int .i64 (i : Int) ∧ Aside0 (Ins h i us) ∧ Aside0 (V.ownsRow W.heap.size 3 1 ov us.length (nums .i64 (usN us))) ∧ Aside0 (Below W.heap.size W V)) (fun iv _ _ => m - (ixOf iv).toNat)
  case atStart => exact ⟨0, [], Nat.zero_le _, rfl, ⟨Ins.zero h⟩, ⟨HR0.out⟩, ⟨Below.refl _ _⟩⟩
  case round =>
    obtain ⟨i, us, hi, rfl, ⟨hin⟩, ⟨hrow⟩, ⟨hb⟩⟩ := hrel
    have HIi := Lib.hid hin
    have HRi := Lib.hid hrow
    have HBi := Lib.hid hb
    clear hin hrow hb HR0
    have c1 := HQc.out _ HBi.out
    by_cases hlt : i < m
    · have hd := decide_eq_true (show (i : Int) < (m : Int) by omega)
      have hdn := decide_eq_true hlt
      obtain ⟨g, hA, q0, _⟩ := (HQ.out.below HBi.out (Nat.le_refl _)).at_ i (by rw [Hm.out]; exact hlt)
      subst hA
      obtain ⟨a, ha⟩ : ∃ a : Nat, (h.getD i (0, E0)).1 = a := ⟨_, rfl⟩
      have Ha := Lib.hid ha
      rw [ha] at q0
      have HAn : Hid (a < n) := Lib.hid (by
        have hil : i < h.length := by rw [Hm.out]; exact hlt
        have h1 := HQ.out.good h[i] (List.getElem_mem hil)
        rw [List.getD_eq_getElem?_getD, List.getElem?_eq_getElem hil] at ha
        have ha : (h[i]).1 = a := ha
        rw [← ha]
        exact h1.1)
      have p1 : (0 ≤ (i : Int)) = True := eq_true (by omega)
      have p2 : ((i : Int) < (m : Int)) = True := eq_true (by omega)
      have hnx := nx_small (i := i) (by have := Hl.out; have := Hm.out; omega)
      have Hnx := Lib.hid hnx
      have HRa := Lib.hid (HRd.out _ HBi.out a HAn.out)
      obtain ⟨S, hS⟩ : ∃ S, full (cont h a) = S := ⟨_, rfl⟩
      have HS := Lib.hid hS
      rw [hS] at HRa
      have Hlt := Lib.hid hlt
      have HLn : Hid (us.length ≤ 131072) := Lib.hid (by have := HIi.out.len HQ.out.good (by have := Hm.out; omega); have := HNN.out; omega)
      obtain ⟨U, hU⟩ : ∃ U, usN us = U := ⟨_, rfl⟩
      have HU := Lib.hid hU
      have HAt := Lib.hid (usN_at us)
      obtain ⟨L, hL⟩ : ∃ L, us.length = L := ⟨_, rfl⟩
      have HL := Lib.hid hL
      rw [hU] at HRi HAt
      rw [hL] at HRi HLn
      obtain ⟨Ao, co, rfl⟩ := own_slice (by have := HRi.out; rw [← hL, ← usN_length, hU] at this; exact this)
      have hUL : U.length = L := by rw [← hU, usN_length, hL]
      rw [hUL] at HRi
      rw [hUL]
      have HCo : Hid (L ≤ co) := Lib.hid (own_cap HRi.out)
      clear ha hS hU hL hlt hi hnx hUL
      go_wp2_with fail
      refine HRa.out.mono ?_; rintro e w5 ⟨rfl, hb5⟩
      have HR5 := Lib.hid (pw_own_below HRi.out hb5)
      have HB5 := Lib.hid (below_step HBi.out hb5)
      clear hb5 HRa hd hdn p1 p2 q0 c1
      go_wp2_with fail
      go_loopw [8] (fun kv V => ∃ (k : Nat), k ≤ L ∧ kv = .int .i64 (k : Int) ∧ Aside0 (∀ j, j < k → us.getD j 0 < a) ∧ Aside0 (V.ownsRow W.heap.size 3 1 (.slice Ao L co) L (nums .i64 U)) ∧ Aside0 (Below W.heap.size W V)) (fun kv _ => L - (ixOf kv).toNat)
      case atStart => exact ⟨0, Nat.zero_le _, rfl, ⟨fun j hj => absurd hj (Nat.not_lt_zero _)⟩, ⟨HR5.out⟩, ⟨HB5.out⟩⟩
      case round =>
        obtain ⟨k, hk, rfl, ⟨hlow⟩, ⟨hrow⟩, ⟨hb⟩⟩ := hrel
        have Hlow := Lib.hid hlow
        have HRk := Lib.hid hrow
        have HBk2 := Lib.hid hb
        have Hk := Lib.hid hk
        clear hlow hrow hb HR5 HB5
        have HBl := Lib.hid (HBk.out wr)
        by_cases hkl : k < L
        · have hd := decide_eq_true (show (k : Int) < (L : Int) by omega)
          have hdn := decide_eq_true hkl
          obtain ⟨G3, _, e3, _⟩ := HRk.out.form (by omega)
          have e30 := (Value.slice.inj e3).1
          subst e30
          have q3 := (own_at HRk.out (k : Int) (by omega) (by omega)).1
          rw [Int.toNat_natCast, HAt.out k] at q3
          obtain ⟨x, hx⟩ : ∃ x, us.getD k 0 = x := ⟨_, rfl⟩
          have Hx := Lib.hid hx
          rw [hx] at q3
          have p1 : (0 ≤ (k : Int)) = True := eq_true (by omega)
          have p2 : ((k : Int) < (L : Int)) = True := eq_true (by omega)
          have hkx := nx_small (i := k) (by have := HLn.out; omega)
          have Hkx := Lib.hid hkx
          have Hkl := Lib.hid hkl
          clear e3 hx hkl hk hkx
          by_cases hxa : x < a
          · have hd2 := decide_eq_true (show (x : Int) < (a : Int) by omega)
            have hd2n := decide_eq_true hxa
            have Hxa := Lib.hid hxa
            clear hxa
            go_wp2_with fail
            have hkx := Hkx.out
            clear hd hdn hd2 hd2n p1 p2 q3
            go_roundw
            case rel => exact ⟨k + 1, Hkl.out, by first | rfl | (rw [hkx]; rfl), ⟨fun j hj => by
              by_cases hjk : j = k
              · rw [hjk, Hx.out]; exact Hxa.out
              · exact Hlow.out j (by omega)⟩, ⟨HRk.out⟩, ⟨HBk2.out⟩⟩
            case measure => have h1 := Hkl.out; first | (rw [hkx]; simp [ixOf, Go.RowKit.intOf]; omega) | (simp [ixOf, Go.RowKit.intOf]; omega)
          · have hd2 := decide_eq_false (show ¬ (x : Int) < (a : Int) by omega)
            have hd2n := decide_eq_false hxa
            have Hxa := Lib.hid hxa
            clear hxa
            by_cases hz : cont h a = E0
            · have hb : (S.toList == (full E0).toList) = true := by rw [← HS.out, hz]; exact beq_self_eq_true _
              have HI2 := Lib.hid (HIi.out.none Ha.out hz)
              clear hz
              go_wp2_with fail
              refine HBl.out.mono ?_; rintro e w6 ⟨rfl, hb6⟩
              have HR6 := Lib.hid (pw_own_below HRk.out hb6)
              have HB6 := Lib.hid (below_step HBk2.out hb6)
              clear hb6 q3 hd hdn hd2 hd2n p1 p2
              have hnx := Hnx.out
              go_wp2_with fail
              go_roundw
              case rel => exact ⟨i + 1, us, Hlt.out, by first | rfl | (rw [hnx]; rfl), ⟨HI2.out⟩, ⟨by rw [HU.out, HL.out]; exact HR6.out⟩, ⟨HB6.out⟩⟩
              case measure => have h1 := Hlt.out; first | (rw [hnx]; simp [ixOf, Go.RowKit.intOf]; omega) | (simp [ixOf, Go.RowKit.intOf]; omega)
            · have hb : (S.toList == (full E0).toList) = false := beq_eq_false_iff_ne.2 (fun e => hz (full_inj (cont_slim h HQ.out.good a) slim_empty (by rw [HS.out]; exact toList_inj20 e (toList_eq20 _) (toList_eq20 _))))
              have HZ := Lib.hid hz
              clear hz
              go_wp2_with fail
              refine HBl.out.mono ?_; rintro e w6 ⟨rfl, hb6⟩
              have HR6 := Lib.hid (pw_own_below HRk.out hb6)
              have HB6 := Lib.hid (below_step HBk2.out hb6)
              have q6 := (own_at HR6.out (k : Int) (by omega) (by have := Hkl.out; omega)).1
              rw [Int.toNat_natCast, HAt.out k, Hx.out] at q6
              clear hb6 q3 hd2 hd2n
              by_cases hxe : x = a
              · subst hxe
                have he : ((x : Int) == (x : Int)) = true := beq_self_eq_true _
                have hen : decide (x = x) = true := decide_eq_true rfl
                have HI2 := Lib.hid (HIi.out.there Ha.out (by
                  have h1 : k < us.length := by rw [HL.out]; exact Hkl.out
                  have h2 := Hx.out
                  rw [List.getD_eq_getElem?_getD, List.getElem?_eq_getElem h1] at h2
                  have h2 : us[k] = x := h2
                  rw [← h2]
                  exact List.getElem_mem h1))
                have hnx := Hnx.out
                go_wp2_with fail
                go_roundw
                case rel => exact ⟨i + 1, us, Hlt.out, by first | rfl | (rw [hnx]; rfl), ⟨HI2.out⟩, ⟨by rw [HU.out, HL.out]; exact HR6.out⟩, ⟨HB6.out⟩⟩
                case measure => have h1 := Hlt.out; first | (rw [hnx]; simp [ixOf, Go.RowKit.intOf]; omega) | (simp [ixOf, Go.RowKit.intOf]; omega)
              · have he : ((x : Int) == (a : Int)) = false := beq_eq_false_iff_ne.2 (fun e => hxe (by omega))
                have hen : decide (x = a) = false := decide_eq_false hxe
                have Hup : Hid (k < L → a < us.getD k 0) := Lib.hid (fun _ => by rw [Hx.out]; have := Hxa.out; omega)
                clear hxe
                obtain ⟨wz, hwz⟩ : ∃ V, w6 = V := ⟨_, rfl⟩
                rw [hwz] at HR6 HB6
                rw [hwz]
                try rw [hwz] at q6
                clear hwz
                have hreads := own_reads' HR6.out
                have HCt := Lib.hid (Kd.C_of_reads (d := (0 : Int)) (enc := Value.int .i64) (h1 := fun _ => rfl) (ReadsInt.upto_ hreads k Hk.out))
                have HCd := Lib.hid (Kd.C_of_reads (d := (0 : Int)) (enc := Value.int .i64) (h1 := fun _ => rfl) (ReadsInt.from_ hreads HCo.out k Hk.out))
                have HI2 := Lib.hid (HIi.out.put Ha.out HZ.out (by rw [HL.out]; exact Hk.out) Hlow.out (by rw [HL.out]; exact Hup.out))
                have hs1 := cut_to (P := Tryd.prog) 52 3 .i64 Tryd.underlying52 Hti.out.1 (some ⟨G3, 0, none⟩) L co (k : Int) (by omega) (by have := Hk.out; omega) HCo.out
                have hs2 := cut_from (P := Tryd.prog) 52 3 .i64 Tryd.underlying52 Hti.out.1 1 Hti.out.2 (some ⟨G3, 0, none⟩) L co (k : Int) (by omega) (by have := Hk.out; omega)
                rw [Int.toNat_natCast] at hs1 hs2
                obtain ⟨Bd, hBd⟩ : ∃ B : Option Addr, (if co = k then ((some ⟨G3, 0, none⟩) : Option Addr) else ((some ⟨G3, 0, none⟩) : Option Addr).map (fun (x : Addr) => x.add (k * 1))) = B := ⟨_, rfl⟩
                rw [hBd] at hs2 HCd
                clear hBd
                have HUl : Hid (U.length = L) := Lib.hid (by rw [← HU.out, usN_length, HL.out])
                clear hreads
                go_wp2_with (first
                  | (at_builtin; refine Kd.R_append_rows (Kd.int .i64) (Rr := fun x cs => cs = [.int .i64 x]) (w0 := wz) wz.heap.size rfl (.tmp 64) (.tmp 67) 52 3 (.int .i64 0) 8 rfl Tryd.underlying52 infoIntS rfl (by decide) (by decide) (.slice none 0 0) [] (U.take k) _ k _ (fun _ => True) (fun _ => False) rfl rfl (Kd.R_nil _ _ _ _ _) HCt.out (fun x cs h => h) (fun _ h => h.elim) (fun _ _ => trivial) (Below.refl _ _) (Nat.le_refl _) (by have := Hk.out; have := HLn.out; simp only [List.length_nil]; omega) ?_; intro v1 x1 hr1 hb1 _ _; rw [List.nil_append] at hr1; have HR1 := Lib.hid hr1; have HB1 := Lib.hid hb1; clear hr1 hb1)
                  | (at_builtin; refine print_append_of (Value.int .i64) (w0 := wz) wz.heap.size rfl (.tmp 69) (.tmp 71) 52 3 (.int .i64 0) 8 rfl Tryd.underlying52 infoIntS rfl (by decide) v1 (U.take k) (a : Int) rfl rfl rfl (Kd.own_of_R HR1.out) HB1.out HB1.out.size (by have := Hk.out; have := HLn.out; rw [List.length_take]; omega) ?_; intro v2 x2 ho2 hb2 _ _; have HR2 := Lib.hid ho2; have HB2 := Lib.hid hb2; have HC2 := Lib.hid (Kd.C_below HCd.out HB2.out); clear ho2 hb2)
                  | (at_builtin; refine Kd.R_append_rows (Kd.int .i64) (Rr := fun x cs => cs = [.int .i64 x]) (w0 := wz) wz.heap.size rfl (.tmp 73) (.tmp 76) 52 3 (.int .i64 0) 8 rfl Tryd.underlying52 infoIntS rfl (by decide) (by decide) v2 (U.take k ++ [(a : Int)]) (U.drop k) _ (L - k) _ (fun _ => True) (fun _ => False) rfl rfl (Kd.R_of_own (enc := Value.int .i64) HR2.out (fun _ _ => trivial)) HC2.out (fun x cs h => h) (fun _ h => h.elim) (fun _ _ => trivial) HB2.out HB2.out.size (by have := Hk.out; have := HLn.out; rw [List.length_append, List.length_take]; simp only [List.length_singleton]; omega) ?_; intro v3 x3 hr3 hb3 _ _; have HR3 := Lib.hid (Kd.own_of_R hr3); have HB3 := Lib.hid hb3; clear hr3 hb3)
                  | go_in)
                have HRn : Hid (x3.ownsRow W.heap.size 3 1 v3 (us.take k ++ [a] ++ us.drop k).length (nums .i64 (usN (us.take k ++ [a] ++ us.drop k)))) := Lib.hid (by
                  have e : U.take k ++ [(a : Int)] ++ U.drop k = usN (us.take k ++ [a] ++ us.drop k) := by
                    rw [← HU.out]; unfold usN; simp
                  have h3 := HR3.out
                  rw [e, usN_length] at h3
                  exact own_weaken h3 HB6.out.size)
                have HBn := Lib.hid (below_step HB6.out HB3.out)
                clear hs1 hs2
                have hnx := Hnx.out
                go_roundw
                case rel => exact ⟨i + 1, _, Hlt.out, by first | rfl | (rw [hnx]; rfl), ⟨HI2.out⟩, ⟨HRn.out⟩, ⟨HBn.out⟩⟩
                case measure => have h1 := Hlt.out; first | (rw [hnx]; simp [ixOf, Go.RowKit.intOf]; omega) | (simp [ixOf, Go.RowKit.intOf]; omega)
        · have hd := decide_eq_false (show ¬ (k : Int) < (L : Int) by omega)
          have hdn := decide_eq_false hkl
          have Hup : Hid (k < L → a < us.getD k 0) := Lib.hid (fun h => absurd h hkl)
          clear hkl hk
          by_cases hz : cont h a = E0
          · have hb : (S.toList == (full E0).toList) = true := by rw [← HS.out, hz]; exact beq_self_eq_true _
            have HI2 := Lib.hid (HIi.out.none Ha.out hz)
            clear hz
            go_wp2_with fail
            refine HBl.out.mono ?_; rintro e w6 ⟨rfl, hb6⟩
            have HR6 := Lib.hid (pw_own_below HRk.out hb6)
            have HB6 := Lib.hid (below_step HBk2.out hb6)
            clear hb6 hd hdn
            have hnx := Hnx.out
            go_wp2_with fail
            go_roundw
            case rel => exact ⟨i + 1, us, Hlt.out, by first | rfl | (rw [hnx]; rfl), ⟨HI2.out⟩, ⟨by rw [HU.out, HL.out]; exact HR6.out⟩, ⟨HB6.out⟩⟩
            case measure => have h1 := Hlt.out; first | (rw [hnx]; simp [ixOf, Go.RowKit.intOf]; omega) | (simp [ixOf, Go.RowKit.intOf]; omega)
          · have hb : (S.toList == (full E0).toList) = false := beq_eq_false_iff_ne.2 (fun e => hz (full_inj (cont_slim h HQ.out.good a) slim_empty (by rw [HS.out]; exact toList_inj20 e (toList_eq20 _) (toList_eq20 _))))
            have HZ := Lib.hid hz
            clear hz
            go_wp2_with fail
            refine HBl.out.mono ?_; rintro e w6 ⟨rfl, hb6⟩
            have HR6 := Lib.hid (pw_own_below HRk.out hb6)
            have HB6 := Lib.hid (below_step HBk2.out hb6)
            clear hb6
            obtain ⟨wz, hwz⟩ : ∃ V, w6 = V := ⟨_, rfl⟩
            rw [hwz] at HR6 HB6
            rw [hwz]
            try rw [hwz] at q6
            clear hwz
            have hreads := own_reads' HR6.out
            have HCt := Lib.hid (Kd.C_of_reads (d := (0 : Int)) (enc := Value.int .i64) (h1 := fun _ => rfl) (ReadsInt.upto_ hreads k Hk.out))
            have HCd := Lib.hid (Kd.C_of_reads (d := (0 : Int)) (enc := Value.int .i64) (h1 := fun _ => rfl) (ReadsInt.from_ hreads HCo.out k Hk.out))
            have HI2 := Lib.hid (HIi.out.put Ha.out HZ.out (by rw [HL.out]; exact Hk.out) Hlow.out (by rw [HL.out]; exact Hup.out))
            have hs1 := cut_to (P := Tryd.prog) 52 3 .i64 Tryd.underlying52 Hti.out.1 Ao L co (k : Int) (by omega) (by have := Hk.out; omega) HCo.out
            have hs2 := cut_from (P := Tryd.prog) 52 3 .i64 Tryd.underlying52 Hti.out.1 1 Hti.out.2 Ao L co (k : Int) (by omega) (by have := Hk.out; omega)
            rw [Int.toNat_natCast] at hs1 hs2
            obtain ⟨Bd, hBd⟩ : ∃ B : Option Addr, (if co = k then (Ao : Option Addr) else (Ao : Option Addr).map (fun (x : Addr) => x.add (k * 1))) = B := ⟨_, rfl⟩
            rw [hBd] at hs2 HCd
            clear hBd
            have HUl : Hid (U.length = L) := Lib.hid (by rw [← HU.out, usN_length, HL.out])
            clear hreads
            go_wp2_with (first
              | (at_builtin; refine Kd.R_append_rows (Kd.int .i64) (Rr := fun x cs => cs = [.int .i64 x]) (w0 := wz) wz.heap.size rfl (.tmp 64) (.tmp 67) 52 3 (.int .i64 0) 8 rfl Tryd.underlying52 infoIntS rfl (by decide) (by decide) (.slice none 0 0) [] (U.take k) _ k _ (fun _ => True) (fun _ => False) rfl rfl (Kd.R_nil _ _ _ _ _) HCt.out (fun x cs h => h) (fun _ h => h.elim) (fun _ _ => trivial) (Below.refl _ _) (Nat.le_refl _) (by have := Hk.out; have := HLn.out; simp only [List.length_nil]; omega) ?_; intro v1 x1 hr1 hb1 _ _; rw [List.nil_append] at hr1; have HR1 := Lib.hid hr1; have HB1 := Lib.hid hb1; clear hr1 hb1)
              | (at_builtin; refine print_append_of (Value.int .i64) (w0 := wz) wz.heap.size rfl (.tmp 69) (.tmp 71) 52 3 (.int .i64 0) 8 rfl Tryd.underlying52 infoIntS rfl (by decide) v1 (U.take k) (a : Int) rfl rfl rfl (Kd.own_of_R HR1.out) HB1.out HB1.out.size (by have := Hk.out; have := HLn.out; rw [List.length_take]; omega) ?_; intro v2 x2 ho2 hb2 _ _; have HR2 := Lib.hid ho2; have HB2 := Lib.hid hb2; have HC2 := Lib.hid (Kd.C_below HCd.out HB2.out); clear ho2 hb2)
              | (at_builtin; refine Kd.R_append_rows (Kd.int .i64) (Rr := fun x cs => cs = [.int .i64 x]) (w0 := wz) wz.heap.size rfl (.tmp 73) (.tmp 76) 52 3 (.int .i64 0) 8 rfl Tryd.underlying52 infoIntS rfl (by decide) (by decide) v2 (U.take k ++ [(a : Int)]) (U.drop k) _ (L - k) _ (fun _ => True) (fun _ => False) rfl rfl (Kd.R_of_own (enc := Value.int .i64) HR2.out (fun _ _ => trivial)) HC2.out (fun x cs h => h) (fun _ h => h.elim) (fun _ _ => trivial) HB2.out HB2.out.size (by have := Hk.out; have := HLn.out; rw [List.length_append, List.length_take]; simp only [List.length_singleton]; omega) ?_; intro v3 x3 hr3 hb3 _ _; have HR3 := Lib.hid (Kd.own_of_R hr3); have HB3 := Lib.hid hb3; clear hr3 hb3)
              | go_in)
            have HRn : Hid (x3.ownsRow W.heap.size 3 1 v3 (us.take k ++ [a] ++ us.drop k).length (nums .i64 (usN (us.take k ++ [a] ++ us.drop k)))) := Lib.hid (by
              have e : U.take k ++ [(a : Int)] ++ U.drop k = usN (us.take k ++ [a] ++ us.drop k) := by
                rw [← HU.out]; unfold usN; simp
              have h3 := HR3.out
              rw [e, usN_length] at h3
              exact own_weaken h3 HB6.out.size)
            have HBn := Lib.hid (below_step HB6.out HB3.out)
            clear hs1 hs2
            have hnx := Hnx.out
            go_roundw
            case rel => exact ⟨i + 1, _, Hlt.out, by first | rfl | (rw [hnx]; rfl), ⟨HI2.out⟩, ⟨HRn.out⟩, ⟨HBn.out⟩⟩
            case measure => have h1 := Hlt.out; first | (rw [hnx]; simp [ixOf, Go.RowKit.intOf]; omega) | (simp [ixOf, Go.RowKit.intOf]; omega)
    · obtain rfl : i = m := by omega
      have hd := decide_eq_false (show ¬ (i : Int) < (i : Int) by omega)
      have HE : Hid (us = used n (cont h)) := Lib.hid (Ins.done HQ.out.good (by rw [Hm.out]; exact HIi.out))
      clear hlt hi
      go_wp2
      go_ret
      refine ⟨_, rfl, ?_, HBi.out⟩
      have h1 := HRi.out
      rw [HE.out, usN_used, ← usN_length, usN_used] at h1
      exact h1
end Go.Proofs.YteooldbdilkmeaaDoor.SC
