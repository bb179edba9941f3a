/- A row that a call owns: where it lies, a byte stored in it; what lies elsewhere stays. -/
import Derived.Test.YthgahepldlicbaaBRdr2
namespace Go.Proofs.Ythgahepldlicbaa.BR
open Go.RowKit Go.Proofs.YthgahepldlicbaaW.PrintWords Go.Proofs.YthgahepldlicbaaW.PrintLast Go.Proofs.YthgahepldlicbaaW.PrintMore
theorem OB.form {w : World} {base : Nat} {A : Option Addr} {n c : Nat} {l : List Int} (h : OB w base (.slice A n c) l) (hl : 0 < l.length) : ∃ g, A = some ⟨g, 0, none⟩ ∧ base ≤ g ∧ g < w.heap.size := by
  rcases h.2 with ⟨h', hn⟩ | ⟨g, cap, cur, h', hb, hh, _⟩
  · omega
  · injection h' with h'
    refine ⟨g, h', hb, ?_⟩
    have := World.ownsRow.lt h g (by rw [h']; rfl)
    exact this.2
theorem OB.at_ {W : World} {base g c : Nat} {l : List Int} (h : OB W base (.slice (some ⟨g, 0, none⟩) l.length c) l) (j : Nat) (hj : j < l.length) : W.cell? ⟨g, j, none⟩ = some (.int .u8 (rd l j)) ∧ W.frozen? ⟨g, j, none⟩ = false := own_at h (j : Int) (by omega) (by omega)
theorem OB.store {W : World} {base g c : Nat} {l : List Int} (h : OB W base (.slice (some ⟨g, 0, none⟩) l.length c) l) (j : Nat) (x : Int) :
    OB (W.setCell ⟨g, j, none⟩ (.int .u8 x)) base (.slice (some ⟨g, 0, none⟩) (l.set j x).length c) (l.set j x) := by
  have := (own_store h (j : Int) x).1
  simp only [OB, List.length_set]
  exact this
theorem reads_grown {w W : World} {k : IntKind} {A : Option Addr} {n g : Nat} {xs : List Int} (h : ReadsInt w k A n xs) (hg : w.grownBy W (some g)) (hf : ∀ ad, A = some ad → 0 < n → ad.block ≠ g) : ReadsInt W k A n xs := by
  refine ⟨h.1, h.2.1, fun hn => ?_⟩
  obtain ⟨ad, rfl, hc⟩ := h.2.2 hn
  exact ⟨ad, rfl, fun j hj => hg.cell (hc j hj) (fun e => hf ad rfl hn (by injection e with e; rw [add_block] at e; exact e))⟩
theorem OB.grown {w W : World} {base : Nat} {v : Value} {l : List Int} {g : Nat} (h : OB w base v l) (hg : w.grownBy W (some g)) (hf : v.ownBlock ≠ some g) : OB W base v l := by
  refine ⟨h.1, ?_⟩
  rcases h.2 with h' | ⟨b, cap, cur, hv, hb, hh, hr⟩
  · exact .inl h'
  · refine .inr ⟨b, cap, cur, hv, hb, ?_, hr⟩
    have hlt := World.ownsRow.lt h b (by rw [hv]; rfl)
    rw [hg.block b hlt.2 (fun e => hf (by rw [hv]; exact e))]
    exact hh
end Go.Proofs.Ythgahepldlicbaa.BR
