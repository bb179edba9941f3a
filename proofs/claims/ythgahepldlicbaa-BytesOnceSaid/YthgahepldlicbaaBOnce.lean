/- For every text: what is read as a number (of its first 200 bytes) is laid as just the bytes that were read. -/
import Derived.Test.YthgahepldlicbaaBStrW
import Derived.Test.YthgahepldlicbaaBRdrInt
import Derived.Test.YthgahepldlicbaaBWorks
import Derived.Test.YthgahepldlicbaaPBytesBackx1
namespace Go.Proofs.Ythgahepldlicbaa.BP
open Go.RowKit Go.Proofs.YthgahepldlicbaaW.PrintWords Go.Proofs.YthgahepldlicbaaW.PrintLast Go.Proofs.YthgahepldlicbaaW.PrintMore Go.Proofs.Ythgahepldlicbaa.CD Go.Proofs.Ythgahepldlicbaa.BR
set_option linter.unusedVariables false
set_option linter.unusedSimpArgs false
/-- A string's first bytes. -/
def cutS (s : ByteArray) (n : Nat) : ByteArray := s.extract 0 (min s.size n)
theorem cutS_le (s : ByteArray) (n : Nat) : (cutS s n).size ≤ n := by unfold cutS; rw [ByteArray.size_extract]; omega
theorem cut_calls (s : ByteArray) (n : Nat) (w : World) (hn : n ≤ 1000000) : Calls Try.prog 10 #[.string s, .int .i64 (n : Int)] w fun e w' => e = .returned (.string (cutS s n)) ∧ Below w.heap.size w w' := by
  refine PBytesBack.bedrocklaw04_cut.calls s (n : Int) _ w ?_
  have e : mn (s.size : Int) (n : Int) = ((min s.size n : Nat) : Int) := by unfold mn; split <;> omega
  unfold PBytesBack.bedrocklaw04_cut.f cutS
  rw [e, if_pos (by omega), if_pos (by omega)]
  simp
set_option maxHeartbeats 400000 in
set_option maxRecDepth 100000 in
theorem onceLaw (s : ByteArray) (w : World) (hs : s.size ≤ 140737488351232) : Calls Try.prog 4 #[.string s] w fun e w' => e = .returned (.bool true) ∧ Below w.heap.size w w' := by
  clear hs
  have HC := Lib.hid (fun w' => cut_calls s 200 w' (by decide))
  obtain ⟨t, ht⟩ : ∃ t, t = cutS s 200 := ⟨_, rfl⟩
  rw [← ht] at HC
  have htl : t.size ≤ 200 := by rw [ht]; exact cutS_le _ _
  clear ht
  obtain ⟨X, hX⟩ : ∃ X, X = bytesOf t := ⟨_, rfl⟩
  have hXb : Bytes X := by rw [hX]; exact BS.bytes_bytesOf t
  have hXl : X.length = t.size := by rw [hX]; exact bytesOf_length t
  have HN := Lib.hid (fun W => newstr_calls t W (by omega))
  rw [← hX] at HN
  have kb := bytes_run t
  cases hd : dec X with
  | mk m k =>
  by_cases hk : k = 0
  · subst hk
    have hm := dec_none X m hd
    subst hm
    have h2 : (dec X).2 = 0 := by rw [hd]
    have H2 := Lib.hid h2
    have HXl := Lib.hid hXl
    clear hd h2 hX hXb hXl
    go_enter Try.func4, Try.ntmps4
    go_wp2_with fail
    refine (HC.out _).mono ?_; rintro e w1 ⟨rfl, hb1⟩; have HB1 := Lib.hid hb1; clear hb1
    go_wp2_with fail
    refine (HN.out _).mono ?_; rintro e w2 ⟨g, rfl, hg, hr, hb2⟩; have HB2 := Lib.hid (below_step HB1.out hb2); have HG := Lib.hid (Nat.le_trans HB1.out.size hg); have HR := Lib.hid hr; clear hg hr hb2
    go_wp2_with fail
    refine (num_no g X _ HR.out H2.out).mono ?_; rintro e w3 ⟨rfl, hr3, hg3⟩; have HR3 := Lib.hid hr3; have HB3 := Lib.hid (belowg HB2.out hg3 HB2.out.size HG.out); clear hr3 hg3
    go_wp2_with fail
    refine (err_calls g X true _ HR3.out).mono ?_; rintro e w4 ⟨rfl, ⟨n4, rfl⟩⟩
    go_wp2_with fail
    have hl := left_calls g X true _ (HR3.out.drewN n4)
    rw [HXl.out] at hl
    refine hl.mono ?_
    clear hl
    rintro e w5 ⟨rfl, ⟨n5, rfl⟩⟩
    go_wp2_with fail
    refine (works_calls _).mono ?_; rintro e w6 ⟨rfl, hb6⟩; have HB6 := Lib.hid (below_step (pw_below_drewN HB3.out (n4 + n5)) hb6); clear hb6
    go_wp2_with fail
    go_ret
    exact ⟨rfl, HB6.out⟩
  · obtain ⟨h1, h2, h3, h4, h5, h6⟩ := dec_back X hXb m k hd hk
    have hzl := zag_range m h1
    have hri : rInt (X, false) = (zag m, (X.drop k, false)) := by
      unfold rInt rNum
      simp only [hd, hk, Bool.false_eq_true, if_false]
    have htake : X.take k = num m := by
      have e := congrArg (List.take k) h3
      rw [List.take_append_of_le_length (by omega), List.take_of_length_le (l := num m) (by omega)] at e
      exact e
    have htk : strOfNums (num m) = t.extract 0 k := by rw [BS.extract_str, ← hX, htake]
    have hcm : ∀ (A : Option Addr) (c : Nat) (W : World), ReadsInt W .u8 A (num m).length (num m) → (convert 26 9 (.slice A (num m).length c)).run Try.prog W = .ok (.string (t.extract 0 k)) W := fun A c W hr => by
      rw [← htk]
      exact string_of_reads (c := c) (src := 26) Try.underlying26 Try.underlying5 Try.underlying9 hr
    have HCM := Lib.hid hcm
    have Hd := Lib.hid hd
    have Hk := Lib.hid hk
    have Hm := Lib.hid h1
    have Hz := Lib.hid hzl
    have Hri := Lib.hid hri
    have HXl := Lib.hid hXl
    have hdl : (X.drop k).length = t.size - k := by rw [List.length_drop, hXl]
    have Hdl := Lib.hid hdl
    have hkt : k ≤ t.size := by omega
    have hsub : (t.size : Int) - ((t.size - k : Nat) : Int) = (k : Int) := by omega
    obtain ⟨q, hq⟩ : ∃ q, q = zag m := ⟨_, rfl⟩
    have hzq : zig q = m := by rw [hq, zig_zag]
    rw [← hq] at Hri Hz
    have HPI := Lib.hid (fun W => putInt_nil q W Hz.out)
    rw [hzq] at HPI
    have hd1 : decide ((1 : Int) ≤ (k : Int)) = true := decide_eq_true (by omega)
    have hd10 : decide ((k : Int) ≤ 10) = true := decide_eq_true (by omega)
    have hk0 : (0 : Int) ≤ (k : Int) := by omega
    have hkt' : (k : Int) ≤ (t.size : Int) := by omega
    have HXb := Lib.hid hXb
    clear hd hk h1 h2 h3 h4 h5 h6 hzl hri htake htk hcm hX hXl hdl hq hzq
    go_enter Try.func4, Try.ntmps4
    go_wp2_with fail
    refine (HC.out _).mono ?_; rintro e w1 ⟨rfl, hb1⟩; have HB1 := Lib.hid hb1; clear hb1
    go_wp2_with fail
    refine (HN.out _).mono ?_; rintro e w2 ⟨g, rfl, hg, hr, hb2⟩; have HB2 := Lib.hid (below_step HB1.out hb2); have HG := Lib.hid (Nat.le_trans HB1.out.size hg); have HR := Lib.hid hr; clear hg hr hb2
    go_wp2_with fail
    refine (num_ok g X _ HR.out m k Hd.out Hk.out).mono ?_; rintro e w3 ⟨rfl, hr3, hg3⟩; have HR3 := Lib.hid hr3; have HB3 := Lib.hid (belowg HB2.out hg3 HB2.out.size HG.out); clear hr3 hg3
    go_wp2_with fail
    refine (err_calls g (X.drop k) false _ HR3.out).mono ?_; rintro e w4 ⟨rfl, ⟨n4, rfl⟩⟩
    go_wp2_with fail
    have hl := left_calls g (X.drop k) false _ (HR3.out.drewN n4)
    rw [Hdl.out] at hl
    refine hl.mono ?_
    clear hl
    rintro e w5 ⟨rfl, ⟨n5, rfl⟩⟩
    go_wp2_with fail
    refine (put_nil m _ Hm.out).mono ?_; rintro e w6 ⟨v6, rfl, ho6, hb6⟩; obtain ⟨A6, c6, rfl, hc6, hr6⟩ := ho6.slice; have HB6 := Lib.hid (below_step (pw_below_drewN HB3.out (n4 + n5)) hb6); have HO6 := Lib.hid hr6; clear hb6 ho6 hc6 hr6
    go_wp2_with fail
    refine (HN.out _).mono ?_; rintro e w7 ⟨g7, rfl, hg7, hr7, hb7⟩; have HB7 := Lib.hid (below_step HB6.out hb7); have HG7 := Lib.hid (Nat.le_trans HB6.out.size hg7); have HR7 := Lib.hid hr7; have HO7 := Lib.hid (HO6.out.below hb7); have Hg7 := Lib.hid hg7; clear hg7 hr7 hb7
    go_wp2_with fail
    have hi := int_calls g7 X false _ HR7.out
    rw [Hri.out] at hi
    refine hi.mono ?_
    clear hi
    rintro e w8 ⟨rfl, hr8, hg8⟩
    have HB8 := Lib.hid (belowg HB7.out hg8 HB7.out.size HG7.out)
    have HO8 := Lib.hid (reads_kept HO7.out fun ad e h0 hl => hg8.block _ hl (fun e2 => by
      obtain ⟨ad', e', hcl⟩ := HO6.out.2.2 h0
      rw [e] at e'
      obtain rfl := Option.some.inj e'
      have h1 := World.block_lt_of_cell? w6 _ (hcl 0 h0)
      have hbk : (ad.add 0).block = ad.block := by unfold Addr.add; split <;> rfl
      have h2 := Hg7.out
      have h3 := Option.some.inj e2
      omega))
    clear hr8 hg8
    go_wp2_with fail
    refine (HPI.out _).mono ?_; rintro e w9 ⟨v9, rfl, ho9, hb9⟩; obtain ⟨A9, c9, rfl, hc9, hr9⟩ := ho9.slice; have HB9 := Lib.hid (below_step HB8.out hb9); have HO9 := Lib.hid hr9; have HO6' := Lib.hid (HO8.out.below hb9); clear hb9 ho9 hc9 hr9
    have K3 := Lib.hid (fun (W' : World) (hb : Below w9.heap.size w9 W') => (⟨hb, HCM.out A6 c6 W' (HO6'.out.below hb), HCM.out A9 c9 W' (HO9.out.below hb)⟩ : Below w9.heap.size w9 W' ∧ (convert 26 9 (.slice A6 (num m).length c6)).run Try.prog W' = .ok (.string (t.extract 0 k)) W' ∧ (convert 26 9 (.slice A9 (num m).length c9)).run Try.prog W' = .ok (.string (t.extract 0 k)) W'))
    go_wp2_with fail
    go_region_held3 (fun W' => Below w9.heap.size w9 W' ∧ (convert 26 9 (.slice A6 (num m).length c6)).run Try.prog W' = .ok (.string (t.extract 0 k)) W' ∧ (convert 26 9 (.slice A9 (num m).length c9)).run Try.prog W' = .ok (.string (t.extract 0 k)) W')
      (first | exact K3.out _ (below_drew (Below.refl _ _)) | (go_split_ands; refine K3.out _ ?_; first | assumption | (refine below_step ?_ hb; assumption) | (refine pw_below_drewN ?_ _; assumption)))
      (first | (go_at_call 19; refine (works_calls _).mono ?_; rintro e w10 ⟨rfl, hb⟩))
    all_goals go_wp2
    all_goals go_ret
    all_goals exact ⟨rfl, below_step HB9.out (by go_split_ands; assumption)⟩
end Go.Proofs.Ythgahepldlicbaa.BP
