/- The laws' own small world of chapter 04. -/
import Derived.Test.YthgahepldlicbaaBPut
import Derived.Test.YthgahepldlicbaaBRdrEnd
import Derived.Deep.RegionHeld3
import Derived.Outline
namespace Go.Proofs.Ythgahepldlicbaa.BP
open Go.RowKit Go.Proofs.YthgahepldlicbaaW.PrintWords Go.Proofs.YthgahepldlicbaaW.PrintLast Go.Proofs.YthgahepldlicbaaW.PrintMore Go.Proofs.Ythgahepldlicbaa.CD Go.Proofs.Ythgahepldlicbaa.BR
set_option linter.unusedVariables false
set_option linter.unusedSimpArgs false
set_option maxHeartbeats 400000 in
set_option maxRecDepth 100000 in
theorem works_calls (w : World) : Calls Try.prog 19 #[] w fun e w' => e = .returned (.bool true) ∧ Below w.heap.size w w' := by
  obtain ⟨L, hL⟩ : ∃ L, L = num 300 := ⟨_, rfl⟩
  have HP := Lib.hid (fun w' => put_nil 300 w' (by decide))
  rw [← hL] at HP
  have hLb : Bytes L := by rw [hL]; exact num_bytes 300 (by decide)
  have hLl : L.length ≤ 140737488355328 := by rw [hL]; exact Nat.le_trans (num_le 300) (by decide)
  have hs : ((strOfNums L).toList == ([172, 2] : List UInt8)) = true := by rw [hL, BS.toList_eq]; decide +kernel
  have hnum : ∀ (g : Nat) (w' : World), Rdr w' g L false → Calls Try.prog 21 #[.pointer (some ⟨g, 0, none⟩)] w' fun e w'' => e = .returned (.int .u64 300) ∧ Rdr w'' g [] false ∧ w'.grownBy w'' (some g) := by
    intro g w' h
    have := num_ok g L w' h 300 2 (by rw [hL]; decide +kernel) (by decide)
    rw [show L.drop 2 = [] by rw [hL]; decide +kernel] at this
    exact this
  have HN := Lib.hid hnum
  have HL := Lib.hid hL
  have HLb := Lib.hid hLb
  clear hL hLb hnum
  go_enter Try.func19, Try.ntmps19
  go_wp2_with (first | (go_at_call 11; refine (HP.out _).mono ?_; rintro e w1 ⟨v, rfl, ho, hb1⟩; obtain ⟨A, c, rfl, hc, hr⟩ := ho.slice; have HO := Lib.hid ho; have HB1 := Lib.hid hb1; have Hc := Lib.hid hc; have HR := Lib.hid hr; clear ho hb1 hc hr) | (go_at_call 20; refine (new_calls A c L _ HR.out Hc.out HLb.out hLl).mono ?_; rintro e w2 ⟨g, rfl, hg, hrd, hb2⟩; have hcv := string_of_reads (c := c) (src := 26) Try.underlying26 Try.underlying5 Try.underlying9 (HR.out.below hb2); have HG := Lib.hid hg; have HRD := Lib.hid hrd; have HB2 := Lib.hid hb2; clear hg hrd hb2) | (go_at_call 21; refine (HN.out g _ HRD.out).mono ?_; rintro e w3 ⟨rfl, hr3, hg3⟩; have HR3 := Lib.hid hr3; have HG3 := Lib.hid hg3; clear hr3 hg3) | (go_at_call 26; refine (end_calls g [] false _ HR3.out).mono ?_; rintro e w4 ⟨rfl, hr4, hg4⟩; have HR4 := Lib.hid hr4; have HG4 := Lib.hid hg4; clear hr4 hg4))
  go_ret
  have b1 : Below w.heap.size w w2 := below_step HB1.out HB2.out
  have gg : w.heap.size ≤ g := Nat.le_trans HB1.out.size HG.out
  exact ⟨rfl, belowg (belowg b1 HG3.out b1.size gg) HG4.out (Nat.le_trans b1.size HG3.out.size) gg⟩
end Go.Proofs.Ythgahepldlicbaa.BP
