/- Of any two numbers, any place and time, and whichever one of seed, X, Y, Z and time is changed: unlike numbers are mixed to unlike ones, and the draws differ just if the things do. -/
import Derived.Test.YtfogcdmibakhbaaHashApartWalks
import Derived.Test.YtfogcdmibakhbaaHashInj
namespace Go.Proofs.Ytfogcdmibakhbaa.HW
open Go.RowKit Go.Proofs.Ytfogcdmibakhbaa
set_option linter.unusedVariables false
set_option linter.unusedSimpArgs false
theorem beq_of_iff {a b c d : Int} (h : a = b ↔ c = d) : (a == b) = (c == d) := by
  by_cases e : c = d
  · rw [beq_iff_eq.2 e, beq_iff_eq.2 (h.2 e)]
  · rw [beq_eq_false_iff_ne.2 e, beq_eq_false_iff_ne.2 (fun k => e (h.1 k))]
theorem apartLaw (x y px py pz now which : Int) (w : World) (w0 : (Lit.int .u64 x).wf = true) (w1 : (Lit.int .u64 y).wf = true) (w2 : (Lit.int .i64 px).wf = true) (w3 : (Lit.int .i64 py).wf = true) (w4 : (Lit.int .i64 pz).wf = true) (w5 : (Lit.int .i64 now).wf = true) (w6 : (Lit.int .i64 which).wf = true) :
    Calls Try.prog 8 #[.int .u64 x, .int .u64 y, .agg #[.int .i64 px, .int .i64 py, .int .i64 pz], .int .i64 now, .int .i64 which] w fun e w' => e = .returned (.bool true) ∧ Below w.heap.size w w' := by
  have ux : HI.U x := HP.u64_wf w0
  have uy : HI.U y := HP.u64_wf w1
  have ix : HI.I px := HP.i64_wf w2
  have iy : HI.I py := HP.i64_wf w3
  have iz : HI.I pz := HP.i64_wf w4
  have it : HI.I now := HP.i64_wf w5
  have iw := HI.wrap64_I y
  have hxy : (!(HP.mix x == HP.mix y) == (x == y)) = false := by
    have : (HP.mix x == HP.mix y) = (x == y) := beq_of_iff ⟨HI.mix_inj x y ux uy, fun e => by rw [e]⟩
    rw [this]
    simp
  cases h0 : (bits .and .i64 which 7 == 0) with
  | true => exact apart0 x y px py pz now which w h0 hxy _ rfl (beq_of_iff (HI.draw0 x y px py pz now ux uy))
  | false =>
  cases h1 : (bits .and .i64 which 7 == 1) with
  | true => exact apart1 x y px py pz now which w h0 h1 hxy _ rfl (beq_of_iff (HI.draw1 x px (wrap64 y) py pz now ux ix iw))
  | false =>
  cases h2 : (bits .and .i64 which 7 == 2) with
  | true => exact apart2 x y px py pz now which w h0 h1 h2 hxy _ rfl (beq_of_iff (HI.draw2 x px py (wrap64 y) pz now ux iy iw))
  | false =>
  cases h3 : (bits .and .i64 which 7 == 3) with
  | true => exact apart3 x y px py pz now which w h0 h1 h2 h3 hxy _ rfl (beq_of_iff (HI.draw3 x px py pz (wrap64 y) now ux iz iw))
  | false => exact apart4 x y px py pz now which w h0 h1 h2 h3 hxy _ rfl (beq_of_iff (HI.draw4 x px py pz now (wrap64 y) ux it iw))
end Go.Proofs.Ytfogcdmibakhbaa.HW
