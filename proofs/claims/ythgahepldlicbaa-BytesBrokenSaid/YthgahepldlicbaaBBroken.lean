/- A reader that is broken stays so. -/
import Derived.Test.YthgahepldlicbaaBAsk
import Derived.Test.YthgahepldlicbaaBStrW
import Derived.Test.YthgahepldlicbaaBWorks
import Derived.Test.YthgahepldlicbaaBCut
import Derived.Test.YthgahepldlicbaaBRdrEnd
import Derived.Test.YthgahepldlicbaaBRdrInt
import Derived.Test.YthgahepldlicbaaBRdrText
import Derived.Test.YthgahepldlicbaaBRdrFixed
import Derived.Outline
namespace Go.Proofs.Ythgahepldlicbaa.BP
open Go.RowKit Go.Proofs.YthgahepldlicbaaW.PrintWords Go.Proofs.YthgahepldlicbaaW.PrintLast Go.Proofs.YthgahepldlicbaaW.PrintMore Go.Proofs.Ythgahepldlicbaa.CD Go.Proofs.Ythgahepldlicbaa.BR
set_option linter.unusedVariables false
set_option linter.unusedSimpArgs false
theorem num_brk (g : Nat) (X : List Int) (W : World) (h : Rdr W g X true) : Calls Try.prog 21 #[.pointer (some ⟨g, 0, none⟩)] W fun e w' => e = .returned (.int .u64 0) ∧ Rdr w' g X true ∧ W.grownBy w' (some g) := num_calls g X true W h
theorem int_brk (g : Nat) (X : List Int) (W : World) (h : Rdr W g X true) : Calls Try.prog 24 #[.pointer (some ⟨g, 0, none⟩)] W fun e w' => e = .returned (.int .i64 0) ∧ Rdr w' g X true ∧ W.grownBy w' (some g) := int_calls g X true W h
theorem text_brk (g : Nat) (X : List Int) (n : Int) (W : World) (hn : n < 9223372036854775808) (h : Rdr W g X true) : Calls Try.prog 25 #[.pointer (some ⟨g, 0, none⟩), .int .i64 n] W fun e w' => e = .returned (.string (strOfNums [])) ∧ Rdr w' g X true ∧ W.grownBy w' (some g) := text_calls g X true n W hn h
theorem fixed_brk (g : Nat) (X : List Int) (n : Int) (W : World) (h : Rdr W g X true) : Calls Try.prog 33 #[.pointer (some ⟨g, 0, none⟩), .int .i64 n] W fun e w' => e = .returned (.int .u64 0) ∧ Rdr w' g X true ∧ W.grownBy w' (some g) := fixed_calls g X true n W h
theorem end_brk (g : Nat) (X : List Int) (W : World) (h : Rdr W g X true) : Calls Try.prog 26 #[.pointer (some ⟨g, 0, none⟩)] W fun e w' => e = .returned (.int .i64 4) ∧ Rdr w' g X true ∧ W.grownBy w' (some g) := end_calls g X true W h
theorem take_brk (g : Nat) (X : List Int) (n : Int) (W : World) (h : Rdr W g X true) : Calls Try.prog 27 #[.pointer (some ⟨g, 0, none⟩), .int .i64 n] W fun e w' => ∃ v, e = .returned v ∧ OB w' W.heap.size v [] ∧ Rdr w' g X true ∧ W.grownBy w' (some g) := take_calls g X true n W h
set_option maxHeartbeats 1000000 in
set_option maxRecDepth 100000 in
theorem brokenLaw (s : ByteArray) (A : Option Addr) (n c : Nat) (xs : List (Int × Int)) (w : World) (hn : n ≤ c) (hm : c ≤ maxLen) (hp : Pairs w A n xs) :
    Calls Try.prog 8 #[.string s, .slice A n c] w fun e w' => e = .returned (.bool true) ∧ Below w.heap.size w w' := by
  have HC := Lib.hid (fun w' => cut_calls s 200 w' (by decide))
  obtain ⟨t, ht⟩ : ∃ t, t = cutS s 200 := ⟨_, rfl⟩
  rw [← ht] at HC
  have htl : t.size ≤ 200 := by rw [ht]; exact cutS_le _ _
  clear ht
  obtain ⟨X, hX⟩ : ∃ X, X = bytesOf t := ⟨_, rfl⟩
  have hXb : Bytes X := by rw [hX]; exact BS.bytes_bytesOf t
  have hXl : X.length = t.size := by rw [hX]; exact bytesOf_length t
  have HN := Lib.hid (fun W => newstr_calls t W (by omega))
  rw [← hX] at HN
  have kb := bytes_run t
  have HXl := Lib.hid hXl
  have HP := Lib.hid hp
  have hn63 : n ≤ 9223372036854775807 := by simp [maxLen] at hm; omega
  clear hX hXb hXl hp hm
  go_enter Try.func8, Try.ntmps8
  go_wp2_with fail
  refine (HC.out _).mono ?_; rintro e w1 ⟨rfl, hb1⟩; have HB1 := Lib.hid hb1; clear hb1
  go_wp2_with fail
  refine (HN.out _).mono ?_; rintro e w2 ⟨g, rfl, hg, hr, hb2⟩; have HB2 := Lib.hid (below_step HB1.out hb2); have HG := Lib.hid (Nat.le_trans HB1.out.size hg); have HR := Lib.hid hr; clear hg hr hb2
  go_wp2_with fail
  refine (take_calls g X false (-1) _ HR.out).mono ?_; rintro e w3 ⟨v3, rfl, ho3, hr3, hg3⟩; have HR3 : Hid (Rdr w3 g X true) := Lib.hid hr3; have HB3 := Lib.hid (belowg HB2.out hg3 HB2.out.size HG.out); clear hr3 hg3 ho3
  go_wp2_with fail
  go_loopw [6] (fun iv W => ∃ j : Nat, j ≤ n ∧ iv = .int .i64 (j : Int) ∧ Aside0 (Rdr W g X true) ∧ Aside0 (Below w.heap.size w W)) (fun iv _ => n - (intOf iv).toNat)
  case atStart => exact ⟨0, by omega, rfl, ⟨HR3.out⟩, ⟨HB3.out⟩⟩
  case round =>
    obtain ⟨j, hj, rfl, ⟨hr⟩, ⟨hb⟩⟩ := hrel
    have HRj := Lib.hid hr
    have HBj := Lib.hid hb
    by_cases hlt : j < n ∧ j < 30
    · obtain ⟨h1, h2⟩ := hlt
      obtain ⟨ad, rfl, hcell⟩ := HP.out.2.1 (by omega)
      have hc1 : decide ((j : Int) < (n : Int)) = true := decide_eq_true (by omega)
      have hc2 : decide ((j : Int) < 30) = true := decide_eq_true (by omega)
      obtain ⟨z, hz⟩ : ∃ z, z = (xs.getD j (0, 0)).2 := ⟨_, rfl⟩
      have hzr := (HP.out.2.2 j h1).2
      rw [← hz] at hzr
      have hz2 : z < 9223372036854775808 := by omega
      have HZ := Lib.hid hz2
      have HCL := Lib.hid (fun (W : World) (hb : Below w.heap.size w W) => ((congrArg W.cell? (at_field ad (j * 2) 1 (by decide))).symm.trans (pw_cell_below hb (hcell j h1).2) : W.cell? ⟨(ad.add (j * 2)).block, (ad.add (j * 2)).off + 1, none⟩ = some (.int .i64 (xs.getD j (0, 0)).2)))
      rw [← hz] at HCL
      clear hcell hr hb hz hzr hz2
      go_wp2_with fail
      refine (num_brk g X _ HRj.out).mono ?_; rintro e q1 ⟨rfl, hr, hg⟩; have HRq1 := Lib.hid hr; have HBq1 := Lib.hid (belowg HBj.out hg HBj.out.size HG.out); clear hr hg
      go_wp2_with fail
      refine (int_brk g X _ HRq1.out).mono ?_; rintro e q2 ⟨rfl, hr, hg⟩; have HRq2 := Lib.hid hr; have HBq2 := Lib.hid (belowg HBq1.out hg HBq1.out.size HG.out); clear hr hg
      have x1 := HCL.out _ HBq2.out
      go_wp2_with fail
      refine (text_brk g X z _ HZ.out HRq2.out).mono ?_; rintro e q3 ⟨rfl, hr, hg⟩; have HRq3 := Lib.hid hr; have HBq3 := Lib.hid (belowg HBq2.out hg HBq2.out.size HG.out); clear hr hg
      clear x1
      have x1 := HCL.out _ HBq3.out
      go_wp2_with fail
      refine (take_brk g X z _ HRq3.out).mono ?_; rintro e q4 ⟨v4, rfl, ho, hr, hg⟩; obtain ⟨A4, c4, rfl, hc, hro⟩ := ho.slice; have HRq4 := Lib.hid hr; have HBq4 := Lib.hid (belowg HBq3.out hg HBq3.out.size HG.out); clear hr hg ho hc hro
      clear x1
      have x1 := HCL.out _ HBq4.out
      go_wp2_with fail
      refine (fixed_brk g X z _ HRq4.out).mono ?_; rintro e q5 ⟨rfl, hr, hg⟩; have HRq5 := Lib.hid hr; have HBq5 := Lib.hid (belowg HBq4.out hg HBq4.out.size HG.out); clear hr hg
      clear x1
      go_wp2_with fail
      refine (end_brk g X _ HRq5.out).mono ?_; rintro e q6 ⟨rfl, hr, hg⟩; have HRq6 := Lib.hid hr; have HBq6 := Lib.hid (belowg HBq5.out hg HBq5.out.size HG.out); clear hr hg
      have hE : (strOfNums []).toList = [] := by kernel_rfl
      go_wp2_with fail
      have hl := left_calls g X true _ HRq6.out
      rw [HXl.out] at hl
      refine hl.mono ?_; clear hl; rintro e q7 ⟨rfl, ⟨n7, rfl⟩⟩
      go_wp2_with fail
      refine (err_calls g X true _ (HRq6.out.drewN n7)).mono ?_; rintro e q8 ⟨rfl, ⟨n8, rfl⟩⟩
      clear hE
      go_wp2
      go_roundw
      case rel => exact ⟨j + 1, by omega, by go_num, ⟨HRq6.out.drewN _⟩, ⟨pw_below_drewN HBq6.out _⟩⟩
      case measure => simp [intOf]; omega
    · clear hr hb
      rcases Nat.lt_or_ge j n with h1 | h1
      · have hc1 : decide ((j : Int) < (n : Int)) = true := decide_eq_true (by omega)
        have hc2 : decide ((j : Int) < 30) = false := decide_eq_false (by omega)
        go_wp2_with fail
        refine (err_calls g X true _ HRj.out).mono ?_; rintro e q8 ⟨rfl, ⟨n8, rfl⟩⟩
        go_wp2_with fail
        refine (works_calls _).mono ?_; rintro e q9 ⟨rfl, hb9⟩; have HB9 := Lib.hid (below_step (pw_below_drewN HBj.out n8) hb9); clear hb9
        go_wp2
        go_ret
        exact ⟨rfl, HB9.out⟩
      · have hc1 : decide ((j : Int) < (n : Int)) = false := decide_eq_false (by omega)
        go_wp2_with fail
        refine (err_calls g X true _ HRj.out).mono ?_; rintro e q8 ⟨rfl, ⟨n8, rfl⟩⟩
        go_wp2_with fail
        refine (works_calls _).mono ?_; rintro e q9 ⟨rfl, hb9⟩; have HB9 := Lib.hid (below_step (pw_below_drewN HBj.out n8) hb9); clear hb9
        go_wp2
        go_ret
        exact ⟨rfl, HB9.out⟩
theorem brokenWalk {H : Type} {enc : TypeId × Value → H} {Q : Prop} (s : ByteArray) (v : Value) (d : DataW H) (p : List MemPlace) (w : World) (hs : s.size ≤ 140737488351232) {base : Nat} {held : Bool} {r : Reach} {b0 : Nat}
    (hv : Value.okWide Try.prog w r b0 57 v) (h : DataW.Trod enc Try.prog w base (fun _ => true) held 57 v d p) (hq : Q) :
    Calls Try.prog 8 #[.string s, v] w fun e w' => e = .returned (.bool true) ∧ Below w.heap.size w w' := by
  obtain ⟨A, n, c, xs, rfl, hn, hm, hp⟩ := open_pairs Try.underlying57 Try.underlying63 (by kernel_rfl) (by kernel_rfl) Try.underlying3 Try.underlying3 hv h
  exact brokenLaw s A n c xs w hn hm hp
end Go.Proofs.Ythgahepldlicbaa.BP
