/- The own texts that the statement FreemapPlays leans on: FmArg. -/
import Derived.Test.YtdjjmmndfbffcaaDoorAFreemapPlays
import Derived.Deep.Slices
import Derived.Deep.Fields
import Derived.ChangeSame
import Derived.DataShut
import Derived.RowKit
import Derived.ChangeSlices
import Derived.OpenShut
namespace Go.Proofs.YtdjjmmndfbffcaaDoor.FM
open Go.ChangeShapes Go.WideShapes Go.Deep Go.RowKit Go.Proofs.YtdjjmmndfbffcaaDoorW.PrintWords Go.Proofs.YtdjjmmndfbffcaaDoorW.PrintLast Go.Proofs.YtdjjmmndfbffcaaDoorW.PrintMore
set_option linter.unusedVariables false
set_option linter.unusedSimpArgs false
section
variable {H : Type} {enc : TypeId × Value → H} {P : Program} {w : World} {base : Nat} {spare : Nat → Bool} {held : Bool}
theorem elem_cells {e : TypeId} {fs : Array Field} {a : Addr} {cs : List Value} {x : DataW H × List MemPlace} {n : Nat} (he : P.underlying e = some (.struct fs)) (hone : oneCellFields P fs = true) (hC : P.cellsOf e = fs.size)
    (hc : w.cells? base a (P.cellsOf e) = some cs) (ht : DataW.trod enc P w base spare held n e cs = some x) (j : Nat) (f : Field) (hj : fs[j]? = some f) :
    ∃ (v : Value) (y : DataW H × List MemPlace) (m : Nat), w.cell? (a.add j) = some v ∧ DataW.trod enc P w base spare held m f.type [v] = some y := by
  obtain ⟨_, hl, hat⟩ := World.cells?_some hc
  obtain ⟨ys, m, _, _, hlen, hyl, hf⟩ := DataW.trod_struct he ht
  have hjl : j < fs.size := (Array.getElem?_eq_some_iff.1 hj).1
  have hjc : j < cs.length := by omega
  have hjy : j < ys.length := by omega
  obtain ⟨ho, hk⟩ := hone_of hone j f hj
  have h1 := hf j f hj
  rw [ho, hk] at h1
  have e1 : (cs.drop j).take 1 = [cs[j]] := by rw [List.drop_eq_getElem_cons hjc]; rfl
  exact ⟨cs[j], ys[j], m, (hat j (by omega)).trans (List.getElem?_eq_getElem hjc), by rw [← e1, h1]; exact List.getElem?_eq_getElem hjy⟩
theorem row_cellsF {t e : TypeId} {fs : Array Field} {v : Value} {x : DataW H × List MemPlace} {fuel : Nat} (ht : P.underlying t = some (.slice e)) (he : P.underlying e = some (.struct fs))
    (hone : oneCellFields P fs = true) (hC : P.cellsOf e = fs.size) (hf : DataW.trod enc P w base (fun _ => true) held fuel t [v] = some x) :
    (v = .slice none 0 0) ∨ ∃ (a : Addr) (len cap : Nat), v = .slice (some a) len cap ∧ len ≤ cap ∧ cap ≤ maxLen ∧
      ∀ i, i < len → ∀ (j : Nat) (f : Field), fs[j]? = some f → ∃ (u : Value) (y : DataW H × List MemPlace) (m : Nat), w.cell? (a.add (i * fs.size + j)) = some u ∧ DataW.trod enc P w base (fun _ => true) held m f.type [u] = some y := by
  rcases open_slice ht hf with ⟨hcs, _⟩ | ⟨a, len, cap, m, n, D, Pl, hcs, _, hl, hm, hmm, hx, hi⟩
  · left; simpa using hcs
  · right
    obtain rfl : v = .slice (some a) len cap := by simpa using hcs
    refine ⟨a, len, cap, rfl, hl, hm, fun i hil j f hj => ?_⟩
    obtain ⟨cs, hc, ht'⟩ := hi i (by rw [hmm]; simp; omega)
    obtain ⟨u, y, m', h1, h2⟩ := elem_cells he hone hC hc ht' j f hj
    refine ⟨u, y, m', ?_, h2⟩
    rw [← h1, Go.Deep.add_add, hC]
theorem row_cells {t e : TypeId} {fs : Array Field} {v : Value} {d : DataW H} {p : List MemPlace} {r : Reach} {b0 : Nat} (ht : P.underlying t = some (.slice e)) (he : P.underlying e = some (.struct fs))
    (hone : oneCellFields P fs = true) (hC : P.cellsOf e = fs.size) (hv : Value.okWide P w r b0 t v) (h : DataW.Trod enc P w base (fun _ => true) held t v d p) :
    (v = .slice none 0 0) ∨ ∃ (a : Addr) (len cap : Nat), v = .slice (some a) len cap ∧ len ≤ cap ∧ cap ≤ maxLen ∧
      ∀ i, i < len → ∀ (j : Nat) (f : Field), fs[j]? = some f → ∃ (u : Value) (y : DataW H × List MemPlace) (m : Nat), w.cell? (a.add (i * fs.size + j)) = some u ∧ DataW.trod enc P w base (fun _ => true) held m f.type [u] = some y := by
  obtain ⟨A, len, cap, rfl⟩ := okWide_slice ht hv
  obtain ⟨fuel, hf⟩ := h
  exact row_cellsF ht he hone hC (x := (d, p)) hf
end
theorem at_field (a : Addr) (i k : Nat) (hk : 0 < k) : a.add (i + k) = ⟨(a.add i).block, (a.add i).off + k, none⟩ := by
  unfold Addr.add
  rw [if_neg (by omega)]
  split
  · subst_vars; simp
  · simp [Nat.add_assoc]
set_option maxRecDepth 100000 in
theorem open_dos {H : Type} {enc : TypeId × Value → H} {w : World} {base : Nat} {held : Bool} {r : Reach} {b0 : Nat} {v : Value} {d : DataW H} {p : List MemPlace}
    (hv : Value.okWide Tryd.prog w r b0 32 v) (h : DataW.Trod enc Tryd.prog w base (fun _ => true) held 32 v d p) :
    ∃ A n c, v = .slice A n c ∧ Dos w A n := by
  rcases row_cells Tryd.underlying32 Tryd.underlying41 (by kernel_rfl) (by kernel_rfl) hv h with rfl | ⟨a, len, cap, rfl, hl, hm, hi⟩
  · exact ⟨none, 0, 0, rfl, fun j hj => absurd hj (by omega)⟩
  · refine ⟨some a, len, cap, rfl, fun j hj => ?_⟩
    obtain ⟨u0, y0, m0, c0, t0⟩ := hi j hj 0 _ rfl
    obtain ⟨u1, y1, m1, c1, t1⟩ := hi j hj 1 _ rfl
    obtain ⟨u2, y2, m2, c2, t2⟩ := hi j hj 2 _ rfl
    obtain ⟨x0, hx0, _, _⟩ := DataW.trod_int Tryd.underlying3 t0
    obtain rfl : u0 = .int .i64 x0 := by simpa using hx0
    obtain ⟨x1, hx1, _, _⟩ := DataW.trod_int Tryd.underlying3 t1
    obtain rfl : u1 = .int .i64 x1 := by simpa using hx1
    have e1 : w.cell? ⟨(a.add (j * 3)).block, (a.add (j * 3)).off + 1, none⟩ = some (.int .i64 x1) := by rw [← at_field _ _ _ (by decide)]; exact c1
    have e2 : w.cell? ⟨(a.add (j * 3)).block, (a.add (j * 3)).off + 2, none⟩ = some u2 := by rw [← at_field _ _ _ (by decide)]; exact c2
    rcases open_ints Tryd.underlying22 Tryd.underlying3 (by kernel_rfl) t2 with ⟨hcs, _⟩ | ⟨x, l, c, zs, hcs, _, hl, hm, hz, _, hcell, hwz⟩
    · obtain rfl : u2 = .slice none 0 0 := by simpa using hcs
      exact ⟨a, x0, x1, none, 0, 0, [], rfl, c0, e1, e2, Nat.le_refl _, rfl, by decide, fun h => absurd h (by decide)⟩
    · obtain rfl : u2 = .slice (some x) l c := by simpa using hcs
      have hzl : zs.length = c := by simpa using hz
      refine ⟨a, x0, x1, some x, l, c, zs.take l, rfl, c0, e1, e2, hl, ?_, ?_, fun _ => ⟨x, rfl, fun q hq => ?_⟩⟩
      · rw [List.length_take]; omega
      · unfold maxLen at hm; omega
      · rw [hcell q (by omega)]
        congr 2
        rw [List.getD_eq_getElem?_getD, List.getD_eq_getElem?_getD, List.getElem?_take, if_pos hq]
theorem playsLaw (n : Int) (P0 : Option Addr) (N cap : Nat) (W : World) (hn : -9223372036854775808 ≤ n ∧ n ≤ 9223372036854775807) (hd0 : Dos W P0 N) (hT : TZ W) :
    Calls Tryd.prog 5 #[.int .i64 n, .slice P0 N cap] W fun e w' => e = .returned (.bool true) ∧ Below W.heap.size W w' := playsWalk n P0 N cap W hd0 hT
end Go.Proofs.YtdjjmmndfbffcaaDoor.FM
