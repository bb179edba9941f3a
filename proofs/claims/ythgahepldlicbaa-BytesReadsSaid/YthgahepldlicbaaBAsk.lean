/- An argument that is a slice of structs of one-cell fields, read cell by cell; a slice of pairs of whole numbers. -/
import Derived.Test.YthgahepldlicbaaBRdr2
import Derived.Deep.Slices
import Derived.Deep.Fields
import Derived.ChangeSame
import Derived.DataShut
import Derived.RowKit
namespace Go.Proofs.Ythgahepldlicbaa.BR
open Go.ChangeShapes Go.WideShapes Go.Deep Go.RowKit Go.Proofs.YthgahepldlicbaaW.PrintWords Go.Proofs.YthgahepldlicbaaW.PrintLast Go.Proofs.YthgahepldlicbaaW.PrintMore
set_option linter.unusedVariables false
set_option linter.unusedSimpArgs false
section
variable {H : Type} {enc : TypeId × Value → H} {P : Program} {w : World} {base : Nat} {spare : Nat → Bool} {held : Bool}
theorem elem_cells {e : TypeId} {fs : Array Field} {a : Addr} {cs : List Value} {x : DataW H × List MemPlace} {n : Nat} (he : P.underlying e = some (.struct fs)) (hone : oneCellFields P fs = true) (hC : P.cellsOf e = fs.size)
    (hc : w.cells? base a (P.cellsOf e) = some cs) (ht : DataW.trod enc P w base spare held n e cs = some x) (j : Nat) (f : Field) (hj : fs[j]? = some f) :
    ∃ (v : Value) (y : DataW H × List MemPlace) (m : Nat), w.cell? (a.add j) = some v ∧ DataW.trod enc P w base spare held m f.type [v] = some y := by
  obtain ⟨_, hl, hat⟩ := World.cells?_some hc
  obtain ⟨ys, m, _, _, hlen, hyl, hf⟩ := DataW.trod_struct he ht
  have hjl : j < fs.size := (Array.getElem?_eq_some_iff.1 hj).1
  have hjc : j < cs.length := by omega
  have hjy : j < ys.length := by omega
  obtain ⟨ho, hk⟩ := hone_of hone j f hj
  have h1 := hf j f hj
  rw [ho, hk] at h1
  have e1 : (cs.drop j).take 1 = [cs[j]] := by rw [List.drop_eq_getElem_cons hjc]; rfl
  exact ⟨cs[j], ys[j], m, (hat j (by omega)).trans (List.getElem?_eq_getElem hjc), by rw [← e1, h1]; exact List.getElem?_eq_getElem hjy⟩
/-- Each element's cells, field by field. -/
theorem row_cells {t e : TypeId} {fs : Array Field} {v : Value} {d : DataW H} {p : List MemPlace} {r : Reach} {b0 : Nat} (ht : P.underlying t = some (.slice e)) (he : P.underlying e = some (.struct fs))
    (hone : oneCellFields P fs = true) (hC : P.cellsOf e = fs.size) (hv : Value.okWide P w r b0 t v) (h : DataW.Trod enc P w base (fun _ => true) held t v d p) :
    (v = .slice none 0 0) ∨ ∃ (a : Addr) (len cap : Nat), v = .slice (some a) len cap ∧ len ≤ cap ∧ cap ≤ maxLen ∧
      ∀ i, i < len → ∀ (j : Nat) (f : Field), fs[j]? = some f → ∃ (u : Value) (y : DataW H × List MemPlace) (m : Nat), w.cell? (a.add (i * fs.size + j)) = some u ∧ DataW.trod enc P w base (fun _ => true) held m f.type [u] = some y := by
  obtain ⟨A, len, cap, rfl⟩ := okWide_slice ht hv
  obtain ⟨fuel, hf⟩ := h
  rcases open_slice ht hf with ⟨hcs, _⟩ | ⟨a, l, c, m, n, D, Pl, hcs, _, hl, hm, hmm, hx, hi⟩
  · left; simpa [Value.cells] using hcs
  · right
    simp [Value.cells] at hcs
    obtain ⟨rfl, rfl, rfl⟩ := hcs
    refine ⟨a, len, cap, rfl, hl, hm, fun i hil j f hj => ?_⟩
    obtain ⟨cs, hc, ht'⟩ := hi i (by rw [hmm]; simp; omega)
    obtain ⟨u, y, m', h1, h2⟩ := elem_cells he hone hC hc ht' j f hj
    refine ⟨u, y, m', ?_, h2⟩
    rw [← h1, Go.Deep.add_add, hC]
end
theorem at_field (a : Addr) (i k : Nat) (hk : 0 < k) : a.add (i + k) = ⟨(a.add i).block, (a.add i).off + k, none⟩ := by
  unfold Addr.add
  rw [if_neg (by omega)]
  split
  · subst_vars; simp
  · simp [Nat.add_assoc]
/-- A slice of pairs of whole numbers that is read. -/
def Pairs (w : World) (A : Option Addr) (n : Nat) (xs : List (Int × Int)) : Prop :=
  xs.length = n ∧ (0 < n → ∃ ad, A = some ad ∧ ∀ j, j < n → w.cell? (ad.add (j * 2)) = some (.int .i64 (xs.getD j (0, 0)).1) ∧ w.cell? (ad.add (j * 2 + 1)) = some (.int .i64 (xs.getD j (0, 0)).2)) ∧
    ∀ j, j < n → ((-9223372036854775808 ≤ (xs.getD j (0, 0)).1 ∧ (xs.getD j (0, 0)).1 ≤ 9223372036854775807) ∧ -9223372036854775808 ≤ (xs.getD j (0, 0)).2 ∧ (xs.getD j (0, 0)).2 ≤ 9223372036854775807)
theorem Pairs.below {w w1 : World} {A : Option Addr} {n : Nat} {xs : List (Int × Int)} (h : Pairs w A n xs) (hb : Below w.heap.size w w1) : Pairs w1 A n xs :=
  ⟨h.1, fun hn => by
    obtain ⟨ad, e, hc⟩ := h.2.1 hn
    exact ⟨ad, e, fun j hj => ⟨pw_cell_below hb (hc j hj).1, pw_cell_below hb (hc j hj).2⟩⟩, h.2.2⟩
theorem open_pairs {H : Type} {enc : TypeId × Value → H} {w : World} {base : Nat} {held : Bool} {r : Reach} {b0 : Nat} {t : TypeId} {e : TypeId} {f0 f1 : Field} {v : Value} {d : DataW H} {p : List MemPlace}
    (ht : Try.prog.underlying t = some (.slice e)) (he : Try.prog.underlying e = some (.struct #[f0, f1])) (hone : oneCellFields Try.prog #[f0, f1] = true) (hC : Try.prog.cellsOf e = 2)
    (h0 : Try.prog.underlying f0.type = some (.int .i64)) (h1 : Try.prog.underlying f1.type = some (.int .i64))
    (hv : Value.okWide Try.prog w r b0 t v) (h : DataW.Trod enc Try.prog w base (fun _ => true) held t v d p) :
    ∃ A n c xs, v = .slice A n c ∧ n ≤ c ∧ c ≤ maxLen ∧ Pairs w A n xs := by
  rcases row_cells ht he hone hC hv h with rfl | ⟨a, len, cap, rfl, hl, hm, hi⟩
  · exact ⟨none, 0, 0, [], rfl, Nat.le_refl _, by decide, rfl, fun h => absurd h (by decide), fun j hj => absurd hj (by omega)⟩
  · let val : Nat → Int := fun o => match w.cell? (a.add o) with | some (.int _ x) => x | _ => 0
    have hs : ∀ i, i < len → (w.cell? (a.add (i * 2)) = some (.int .i64 (val (i * 2))) ∧ (-9223372036854775808 ≤ val (i * 2) ∧ val (i * 2) ≤ 9223372036854775807)) ∧ (w.cell? (a.add (i * 2 + 1)) = some (.int .i64 (val (i * 2 + 1))) ∧ (-9223372036854775808 ≤ val (i * 2 + 1) ∧ val (i * 2 + 1) ≤ 9223372036854775807)) := by
      intro i hil
      constructor
      · obtain ⟨u, y, m, hc, htr⟩ := hi i hil 0 f0 rfl
        obtain ⟨x, hx, _, hw⟩ := DataW.trod_int h0 htr
        obtain rfl : u = .int .i64 x := by simpa using hx
        have hc' : w.cell? (a.add (i * 2)) = some (.int .i64 x) := hc
        have e1 : val (i * 2) = x := by simp only [val, hc']
        rw [e1]; exact ⟨hc', (Lit.wf_int_iff .i64 x).mp hw⟩
      · obtain ⟨u, y, m, hc, htr⟩ := hi i hil 1 f1 rfl
        obtain ⟨x, hx, _, hw⟩ := DataW.trod_int h1 htr
        obtain rfl : u = .int .i64 x := by simpa using hx
        have hc' : w.cell? (a.add (i * 2 + 1)) = some (.int .i64 x) := hc
        have e1 : val (i * 2 + 1) = x := by simp only [val, hc']
        rw [e1]; exact ⟨hc', (Lit.wf_int_iff .i64 x).mp hw⟩
    have hg : ∀ j, j < len → ((List.range len).map fun i => (val (i * 2), val (i * 2 + 1))).getD j (0, 0) = (val (j * 2), val (j * 2 + 1)) := by
      intro j hj
      rw [List.getD_eq_getElem?_getD, List.getElem?_map, List.getElem?_range hj]; rfl
    refine ⟨some a, len, cap, (List.range len).map fun i => (val (i * 2), val (i * 2 + 1)), rfl, hl, hm, by simp, fun _ => ⟨a, rfl, fun j hj => ?_⟩, fun j hj => ?_⟩
    · rw [hg j hj]; exact ⟨(hs j hj).1.1, (hs j hj).2.1⟩
    · rw [hg j hj]; exact ⟨(hs j hj).1.2, (hs j hj).2.2⟩
end Go.Proofs.Ythgahepldlicbaa.BR
