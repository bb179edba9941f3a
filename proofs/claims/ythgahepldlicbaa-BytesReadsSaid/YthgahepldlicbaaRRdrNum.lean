/- The reference reader's Num. -/
import Derived.Test.YthgahepldlicbaaRRdr
namespace Go.Proofs.Ythgahepldlicbaa.BR
open Go.RowKit Go.Proofs.YthgahepldlicbaaW.PrintWords Go.Proofs.YthgahepldlicbaaW.PrintLast Go.Proofs.YthgahepldlicbaaW.PrintMore Go.Proofs.Ythgahepldlicbaa.CD
set_option linter.unusedVariables false
set_option linter.unusedSimpArgs false
theorem first_calls (A : Option Addr) (c : Nat) (xs : List Int) (w : World) (hr : ReadsInt w .u8 A xs.length xs) (hc : xs.length ≤ c) (hb : Bytes xs) (hs : xs.length ≤ 140737488355328) :
    Calls Try.prog 44 #[.slice A xs.length c] w fun e w' => e = .returned (.tuple #[.int .u64 ((dec xs).1 : Int), .int .i64 ((dec xs).2 : Int)]) ∧ Below w.heap.size w w' :=
  PBytesReads.bedrockref04_First.calls 70 A c xs _ _ w (Kd.C_of_reads (d := (0 : Int)) (h1 := fun _ => rfl) hr) hc (first_f xs hb hs)
theorem step_calls (g : Nat) (xs : List Int) (n : Int) (w : World) (h : RRd w g xs false) :
    Calls Try.prog 45 #[.pointer (some ⟨g, 0, none⟩), .int .i64 n] w fun e w' => ∃ v, e = .returned v ∧ OB w' w.heap.size v (rTake (xs, false) n).1 ∧ RRd w' g (rTake (xs, false) n).2.1 (rTake (xs, false) n).2.2 ∧ w.grownBy w' (some g) := by
  unfold rTake
  simp only [Bool.false_eq_true, if_false]
  by_cases hn : n < 0 ∨ n > (xs.length : Int)
  · rw [if_pos hn]; exact step_no g xs false n w h hn
  · rw [if_neg hn]; exact step_ok g xs false n w h (by omega) (by omega)
set_option maxHeartbeats 400000 in
set_option maxRecDepth 100000 in
theorem refnum_calls (g : Nat) (xs : List Int) (br : Bool) (w : World) (h : RRd w g xs br) :
    Calls Try.prog 38 #[.pointer (some ⟨g, 0, none⟩)] w fun e w' => e = .returned (.int .u64 ((rNum (xs, br)).1 : Int)) ∧ RRd w' g (rNum (xs, br)).2.1 (rNum (xs, br)).2.2 ∧ w.grownBy w' (some g) := by
  have H := Lib.hid h
  obtain ⟨A, c, hb, hc, hr, hne⟩ := h.cell
  have h0 := blk_cell hb 0
  have h1 := blk_cell hb 1
  simp only [List.getElem?_toArray, List.getElem?_cons_succ, List.getElem?_cons_zero] at h0 h1
  have HF := Lib.hid (first_calls A c xs w hr hc h.bytes h.small)
  clear hb hc hr hne h
  cases br with
  | true =>
    go_enter Try.func38, Try.ntmps38
    go_wp2
    go_ret
    exact ⟨rfl, H.out, World.grownBy.refl _ _⟩
  | false =>
    obtain ⟨⟨m, k⟩, hd⟩ : ∃ q, dec xs = q := ⟨_, rfl⟩
    have e : rNum (xs, false) = if k = 0 then (0, (xs, true)) else (m, (xs.drop k, false)) := by unfold rNum; simp only [Bool.false_eq_true, if_false]; rw [hd]
    rw [hd] at HF
    by_cases hk : k = 0
    · subst hk
      have hm := dec_none xs m hd
      subst hm
      rw [e, if_pos rfl]
      clear e hd
      go_enter Try.func38, Try.ntmps38
      go_wp2_with fail
      refine HF.out.mono ?_; rintro e w1 ⟨rfl, hb1⟩; have HB1 := Lib.hid hb1; clear hb1
      go_wp2_with fail
      refine (step_no g xs false (-1) _ (H.out.below HB1.out) (by omega)).mono ?_; rintro e w2 ⟨v2, rfl, ho2, hr2, hg2⟩; have HR2 := Lib.hid hr2; have HG2 := Lib.hid (gtrans (gofBelow HB1.out) hg2); clear ho2 hr2 hg2
      go_wp2
      go_ret
      exact ⟨rfl, HR2.out, HG2.out⟩
    · have hkl := (dec_back xs H.out.bytes m k hd hk).2.2.2.1
      have hk10 := (dec_back xs H.out.bytes m k hd hk).2.2.2.2.2
      rw [e, if_neg hk]
      have hkz : decide (k = 0) = false := decide_eq_false hk
      clear e hd
      go_enter Try.func38, Try.ntmps38
      go_wp2_with fail
      refine HF.out.mono ?_; rintro e w1 ⟨rfl, hb1⟩; have HB1 := Lib.hid hb1; clear hb1
      have kz : ((k : Int) == 0) = false := beq_eq_false_iff_ne.mpr (by omega)
      go_wp2_with fail
      refine (step_ok g xs false (k : Int) _ (H.out.below HB1.out) (by omega) (by omega)).mono ?_; rintro e w2 ⟨v2, rfl, ho2, hr2, hg2⟩; have HR2 := Lib.hid hr2; have HG2 := Lib.hid (gtrans (gofBelow HB1.out) hg2); clear ho2 hr2 hg2
      go_wp2
      go_ret
      exact ⟨rfl, HR2.out, HG2.out⟩
end Go.Proofs.Ythgahepldlicbaa.BR
