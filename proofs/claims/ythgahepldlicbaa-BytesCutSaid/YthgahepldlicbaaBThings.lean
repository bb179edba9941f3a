/- A slice of things that is read; what many things are laid as. -/
import Derived.Test.YthgahepldlicbaaBLayBack
import Derived.Test.YthgahepldlicbaaBAsk
namespace Go.Proofs.Ythgahepldlicbaa.BP
open Go.ChangeShapes Go.WideShapes Go.Deep Go.RowKit Go.Proofs.YthgahepldlicbaaW.PrintWords Go.Proofs.YthgahepldlicbaaW.PrintLast Go.Proofs.YthgahepldlicbaaW.PrintMore Go.Proofs.Ythgahepldlicbaa.CD Go.Proofs.Ythgahepldlicbaa.BR Go.Proofs.Ythgahepldlicbaa.CR
set_option linter.unusedVariables false
set_option linter.unusedSimpArgs false
def T0 : Thing := (0, 0, ByteArray.empty)
def Things (w : World) (A : Option Addr) (n : Nat) (qs : List Thing) : Prop :=
  qs.length = n ∧ (0 < n → ∃ ad, A = some ad ∧ ∀ j, j < n → w.cell? (ad.add (j * 3)) = some (.int .i64 (qs.getD j T0).1) ∧ w.cell? (ad.add (j * 3 + 1)) = some (.int .u64 ((qs.getD j T0).2.1 : Int)) ∧ w.cell? (ad.add (j * 3 + 2)) = some (.string (qs.getD j T0).2.2)) ∧
    ∀ j, j < n → (qs.getD j T0).2.1 < 18446744073709551616
theorem Things.below {w w1 : World} {A : Option Addr} {n : Nat} {qs : List Thing} (h : Things w A n qs) (hb : Below w.heap.size w w1) : Things w1 A n qs :=
  ⟨h.1, fun hn => by
    obtain ⟨ad, e, hc⟩ := h.2.1 hn
    exact ⟨ad, e, fun j hj => ⟨pw_cell_below hb (hc j hj).1, pw_cell_below hb (hc j hj).2.1, pw_cell_below hb (hc j hj).2.2⟩⟩, h.2.2⟩
theorem open_things {H : Type} {enc : TypeId × Value → H} {w : World} {base : Nat} {held : Bool} {r : Reach} {b0 : Nat} {t : TypeId} {e : TypeId} {f0 f1 f2 : Field} {v : Value} {d : DataW H} {p : List MemPlace}
    (ht : Try.prog.underlying t = some (.slice e)) (he : Try.prog.underlying e = some (.struct #[f0, f1, f2])) (hone : oneCellFields Try.prog #[f0, f1, f2] = true) (hC : Try.prog.cellsOf e = 3)
    (h0 : Try.prog.underlying f0.type = some (.int .i64)) (h1 : Try.prog.underlying f1.type = some (.int .u64)) (h2 : Try.prog.underlying f2.type = some .string)
    (hv : Value.okWide Try.prog w r b0 t v) (h : DataW.Trod enc Try.prog w base (fun _ => true) held t v d p) :
    ∃ A n c qs, v = .slice A n c ∧ n ≤ c ∧ c ≤ maxLen ∧ Things w A n qs := by
  rcases row_cells ht he hone hC hv h with rfl | ⟨a, len, cap, rfl, hl, hm, hi⟩
  · exact ⟨none, 0, 0, [], rfl, Nat.le_refl _, by decide, rfl, fun h => absurd h (by decide), fun j hj => absurd hj (by omega)⟩
  · let val : Nat → Int := fun o => match w.cell? (a.add o) with | some (.int _ x) => x | _ => 0
    let str : Nat → ByteArray := fun o => match w.cell? (a.add o) with | some (.string x) => x | _ => ByteArray.empty
    have hs : ∀ i, i < len → w.cell? (a.add (i * 3)) = some (.int .i64 (val (i * 3))) ∧ (w.cell? (a.add (i * 3 + 1)) = some (.int .u64 (((val (i * 3 + 1)).toNat : Nat) : Int)) ∧ (val (i * 3 + 1)).toNat < 18446744073709551616) ∧ w.cell? (a.add (i * 3 + 2)) = some (.string (str (i * 3 + 2))) := by
      intro i hil
      refine ⟨?_, ?_, ?_⟩
      · obtain ⟨u, y, m, hc, htr⟩ := hi i hil 0 f0 rfl
        obtain ⟨x, hx, _, hw⟩ := DataW.trod_int h0 htr
        obtain rfl : u = .int .i64 x := by simpa using hx
        have hc' : w.cell? (a.add (i * 3)) = some (.int .i64 x) := hc
        have e1 : val (i * 3) = x := by simp only [val, hc']
        rw [e1]; exact hc'
      · obtain ⟨u, y, m, hc, htr⟩ := hi i hil 1 f1 rfl
        obtain ⟨x, hx, _, hw⟩ := DataW.trod_int h1 htr
        obtain rfl : u = .int .u64 x := by simpa using hx
        have hc' : w.cell? (a.add (i * 3 + 1)) = some (.int .u64 x) := hc
        have e1 : val (i * 3 + 1) = x := by simp only [val, hc']
        have hr : (0 : Int) ≤ x ∧ x ≤ 18446744073709551615 := (Lit.wf_int_iff .u64 x).mp hw
        rw [e1, show ((x.toNat : Nat) : Int) = x by omega]; exact ⟨hc', by omega⟩
      · obtain ⟨u, y, m, hc, htr⟩ := hi i hil 2 f2 rfl
        obtain ⟨x, hx, _, hw⟩ := DataW.trod_string h2 htr
        obtain rfl : u = .string x := by simpa using hx
        have hc' : w.cell? (a.add (i * 3 + 2)) = some (.string x) := hc
        have e1 : str (i * 3 + 2) = x := by simp only [str, hc']
        rw [e1]; exact hc'
    have hg : ∀ j, j < len → ((List.range len).map fun i => ((val (i * 3), (val (i * 3 + 1)).toNat, str (i * 3 + 2)) : Thing)).getD j T0 = (val (j * 3), (val (j * 3 + 1)).toNat, str (j * 3 + 2)) := by
      intro j hj
      rw [List.getD_eq_getElem?_getD, List.getElem?_map, List.getElem?_range hj]; rfl
    refine ⟨some a, len, cap, (List.range len).map fun i => ((val (i * 3), (val (i * 3 + 1)).toNat, str (i * 3 + 2)) : Thing), rfl, hl, hm, by simp, fun _ => ⟨a, rfl, fun j hj => ?_⟩, fun j hj => ?_⟩
    · rw [hg j hj]; exact ⟨(hs j hj).1, (hs j hj).2.1.1, (hs j hj).2.2⟩
    · rw [hg j hj]; exact (hs j hj).2.1.2
theorem Things.at_ {w : World} {A : Option Addr} {n : Nat} {qs : List Thing} (h : Things w A n qs) (j : Nat) (hj : j < n) :
    ∃ ad, A = some ad ∧ w.cell? (ad.add (j * 3)) = some (.int .i64 (qs.getD j T0).1) ∧ w.cell? ⟨(ad.add (j * 3)).block, (ad.add (j * 3)).off + 1, none⟩ = some (.int .u64 ((qs.getD j T0).2.1 : Int)) ∧ w.cell? ⟨(ad.add (j * 3)).block, (ad.add (j * 3)).off + 2, none⟩ = some (.string (qs.getD j T0).2.2) := by
  obtain ⟨ad, e, hc⟩ := h.2.1 (by omega)
  obtain ⟨h0, h1, h2⟩ := hc j hj
  rw [at_field ad (j * 3) 1 (by decide)] at h1
  rw [at_field ad (j * 3) 2 (by decide)] at h2
  exact ⟨ad, e, h0, h1, h2⟩
theorem Things.small_at {w : World} {A : Option Addr} {n : Nat} {qs : List Thing} (h : Things w A n qs) (j : Nat) (hj : j < n) : (qs.getD j T0).2.1 < 18446744073709551616 := h.2.2 j hj
/-- What many things are laid as. -/
def tAll (qs : List Thing) : List Int := qs.flatMap tEnc
theorem tAll_step (qs : List Thing) (j : Nat) (hj : j < qs.length) : tAll (qs.take (j + 1)) = tAll (qs.take j) ++ tEnc (qs.getD j T0) := by
  unfold tAll
  rw [List.take_add_one, List.getElem?_eq_getElem hj, List.flatMap_append, List.getD_eq_getElem?_getD, List.getElem?_eq_getElem hj]
  simp
theorem tAll_len : ∀ (qs : List Thing), (tAll qs).length ≤ 210 * qs.length
  | [] => by simp [tAll]
  | q :: qs => by
    have h := tAll_len qs
    have := tEnc_len q
    unfold tAll at h ⊢
    rw [List.flatMap_cons, List.length_append, List.length_cons]; omega
theorem tAll_from (qs : List Thing) (m j : Nat) (hj : j < m) (hm : m ≤ qs.length) : tAll ((qs.take m).drop j) = tEnc (qs.getD j T0) ++ tAll ((qs.take m).drop (j + 1)) := by
  have h1 : j < (qs.take m).length := by rw [List.length_take]; omega
  rw [List.drop_eq_getElem_cons h1]
  unfold tAll
  rw [List.flatMap_cons]
  congr 2
  rw [List.getElem_take, List.getD_eq_getElem?_getD, List.getElem?_eq_getElem (by omega)]
  rfl
theorem tAll_bytes : ∀ (qs : List Thing), (∀ q ∈ qs, q.2.1 < 18446744073709551616) → Bytes (tAll qs)
  | [], _ => Bytes.nil
  | q :: qs, h => by
    unfold tAll
    rw [List.flatMap_cons]
    exact (tEnc_bytes q (h q (by simp))).append (tAll_bytes qs fun x hx => h x (by simp [hx]))
theorem Things.small {w : World} {A : Option Addr} {n : Nat} {qs : List Thing} (h : Things w A n qs) : ∀ q ∈ qs, q.2.1 < 18446744073709551616 := by
  intro q hq
  obtain ⟨j, hj, rfl⟩ := List.mem_iff_getElem.mp hq
  have := h.2.2 j (by have := h.1; omega)
  rwa [List.getD_eq_getElem?_getD, List.getElem?_eq_getElem hj] at this
end Go.Proofs.Ythgahepldlicbaa.BP
