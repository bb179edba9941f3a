/- Walk of a reader's Text. -/
import Derived.Test.YthgahepldlicbaaBRdr2
namespace Go.Proofs.Ythgahepldlicbaa.BR
open Go.RowKit Go.Proofs.YthgahepldlicbaaW.PrintWords Go.Proofs.YthgahepldlicbaaW.PrintLast Go.Proofs.YthgahepldlicbaaW.PrintMore Go.Proofs.Ythgahepldlicbaa.CD
set_option linter.unusedVariables false
set_option linter.unusedSimpArgs false
/-- A text of at most so many bytes. -/
def rText (s : St) (most : Int) : List Int × St := if s.2 then ([], s) else if (dec s.1).2 = 0 ∨ most < 0 ∨ ((dec s.1).1 : Int) > most ∨ (dec s.1).1 > s.1.length - (dec s.1).2 then ([], (s.1, true)) else ((s.1.drop (dec s.1).2).take (dec s.1).1, (s.1.drop ((dec s.1).2 + (dec s.1).1), false))
set_option maxRecDepth 100000 in
theorem text_broken (g : Nat) (xs : List Int) (most : Int) (w : World) (h : Rdr w g xs true) :
    Calls Try.prog 25 #[.pointer (some ⟨g, 0, none⟩), .int .i64 most] w fun e w' => e = .returned (.string (strOfNums [])) ∧ Rdr w' g xs true ∧ w.grownBy w' (some g) := by
  have H := Lib.hid h
  clear h
  go_enter Try.func25, Try.ntmps25
  go_wp2_with (go_at_call 35; refine (fine_calls g xs true _ H.out).mono ?_; rintro e w' ⟨rfl, ⟨nd, rfl⟩⟩)
  go_ret
  exact ⟨rfl, H.out.drewN _, gdrewN (World.grownBy.refl _ _) _⟩
theorem wu64n (n : Nat) (h : n < 18446744073709551616) : IntKind.u64.wrap (n : Int) = (n : Int) := CF.wu64_id _ (by omega) (by omega)
theorem wsub (a b : Nat) (h : b ≤ a) (ha : a ≤ 140737488355328) : wrap64 ((a : Int) - (b : Int)) = ((a - b : Nat) : Int) := by unfold wrap64; omega
theorem wadd (a b : Nat) (h : a + b ≤ 140737488355328) : wrap64 ((a : Int) + (b : Int)) = ((a + b : Nat) : Int) := by unfold wrap64; omega
theorem w64n (a : Nat) (h : a ≤ 140737488355328) : wrap64 (a : Int) = (a : Int) := by unfold wrap64; omega
set_option maxHeartbeats 400000 in
set_option maxRecDepth 100000 in
theorem text_no (g : Nat) (xs : List Int) (most : Int) (w : World) (hmw : most < 9223372036854775808) (h : Rdr w g xs false) (m k : Nat) (hd : dec xs = (m, k)) (hn : k = 0 ∨ most < 0 ∨ (m : Int) > most ∨ m > xs.length - k) :
    Calls Try.prog 25 #[.pointer (some ⟨g, 0, none⟩), .int .i64 most] w fun e w' => e = .returned (.string (strOfNums [])) ∧ Rdr w' g xs true ∧ w.grownBy w' (some g) := by
  have H := Lib.hid h
  obtain ⟨A, c, hb, hc, hr, hne⟩ := h.cell
  have h0 := blk_cell hb 0
  have h2 := blk_cell hb 2
  have f2 := blk_frozen hb 2
  simp only [List.getElem?_toArray, List.getElem?_cons_succ, List.getElem?_cons_zero] at h0 h2
  have HN0 := fun w' (hd : ReadsInt w' .u8 A xs.length xs) => number_calls A c xs w' hd hc h.bytes h.small
  rw [hd] at HN0
  have HN := Lib.hid HN0
  have Hr := Lib.hid hr
  have hkl : k ≠ 0 → k ≤ xs.length := fun hk => (dec_back xs h.bytes m k hd hk).2.2.2.1
  have hsm := h.small
  clear hb hc hr hne h HN0
  by_cases hk : k = 0
  · subst hk
    clear hn hkl hsm hmw hd
    go_enter Try.func25, Try.ntmps25
    go_wp2_with (first | (go_at_call 35; refine (fine_calls g xs false _ H.out).mono ?_; rintro e w' ⟨rfl, ⟨nd, rfl⟩⟩) | (go_at_call 36; refine (HN.out _ (Hr.out.below (pw_below_drewN (Below.refl _ _) _))).mono ?_; rintro e w' ⟨rfl, ⟨nd2, rfl⟩⟩))
    go_ret
    exact ⟨rfl, (H.out.drewN _).breaks, gset (gdrewN (World.grownBy.refl _ _) _) _ _⟩
  have hk0 : (((k : Nat) : Int) == 0) = false := by rw [beq_eq_false_iff_ne]; omega
  have hkl := hkl hk
  by_cases hm : most < 0
  · have hd0 : decide (most < 0) = true := decide_eq_true hm
    clear hn hkl hsm hmw hd hm hk
    go_enter Try.func25, Try.ntmps25
    go_wp2_with (first | (go_at_call 35; refine (fine_calls g xs false _ H.out).mono ?_; rintro e w' ⟨rfl, ⟨nd, rfl⟩⟩) | (go_at_call 36; refine (HN.out _ (Hr.out.below (pw_below_drewN (Below.refl _ _) _))).mono ?_; rintro e w' ⟨rfl, ⟨nd2, rfl⟩⟩))
    go_ret
    exact ⟨rfl, (H.out.drewN _).breaks, gset (gdrewN (World.grownBy.refl _ _) _) _ _⟩
  have hd0 : decide (most < 0) = false := decide_eq_false hm
  by_cases hm2 : (m : Int) > most
  · have hd1 : decide (most < (m : Int)) = true := decide_eq_true hm2
    have ew : IntKind.u64.wrap most = most := CF.wu64_id _ (by omega) (by omega)
    clear hn hkl hsm hmw hd hm hm2 hk
    go_enter Try.func25, Try.ntmps25
    go_wp2_with (first | (go_at_call 35; refine (fine_calls g xs false _ H.out).mono ?_; rintro e w' ⟨rfl, ⟨nd, rfl⟩⟩) | (go_at_call 36; refine (HN.out _ (Hr.out.below (pw_below_drewN (Below.refl _ _) _))).mono ?_; rintro e w' ⟨rfl, ⟨nd2, rfl⟩⟩))
    go_ret
    exact ⟨rfl, (H.out.drewN _).breaks, gset (gdrewN (World.grownBy.refl _ _) _) _ _⟩
  have hd1 : decide (most < (m : Int)) = false := decide_eq_false hm2
  have hd2 : decide (xs.length - k < m) = true := decide_eq_true (by omega)
  have b3 : xs.length - k < 18446744073709551616 := by omega
  have ew : IntKind.u64.wrap most = most := CF.wu64_id _ (by omega) (by omega)
  have ew2 := wsub xs.length k hkl hsm
  have ew3 := wu64n (xs.length - k) b3
  clear b3
  clear hn hkl hsm hmw hd hm hm2 hk
  go_enter Try.func25, Try.ntmps25
  go_wp2_with (first | (go_at_call 35; refine (fine_calls g xs false _ H.out).mono ?_; rintro e w' ⟨rfl, ⟨nd, rfl⟩⟩) | (go_at_call 36; refine (HN.out _ (Hr.out.below (pw_below_drewN (Below.refl _ _) _))).mono ?_; rintro e w' ⟨rfl, ⟨nd2, rfl⟩⟩))
  go_ret
  exact ⟨rfl, (H.out.drewN _).breaks, gset (gdrewN (World.grownBy.refl _ _) _) _ _⟩
theorem reads_mid {w : World} {A : Option Addr} {xs : List Int} (h : ReadsInt w .u8 A xs.length xs) (c k m : Nat) (hkm : k + m ≤ xs.length) (hc : xs.length ≤ c) : ReadsInt w .u8 (if c = k then A else A.map (·.add (k * 1))) m ((xs.drop k).take m) := by
  have h1 := h.drop_ k (by omega) hc
  rw [Nat.mul_one]
  exact h1.take_ m (by omega)
set_option maxHeartbeats 400000 in
set_option maxRecDepth 100000 in
theorem text_ok (g : Nat) (xs : List Int) (most : Int) (w : World) (hmw : most < 9223372036854775808) (h : Rdr w g xs false) (m k : Nat) (hd : dec xs = (m, k)) (hk : k ≠ 0) (hm : 0 ≤ most) (hm2 : (m : Int) ≤ most) (hkm : k + m ≤ xs.length) :
    Calls Try.prog 25 #[.pointer (some ⟨g, 0, none⟩), .int .i64 most] w fun e w' => e = .returned (.string (strOfNums ((xs.drop k).take m))) ∧ Rdr w' g (xs.drop (k + m)) false ∧ w.grownBy w' (some g) := by
  have H := Lib.hid h
  obtain ⟨A, c, hb, hc, hr, hne⟩ := h.cell
  have h0 := blk_cell hb 0
  have f0 := blk_frozen hb 0
  simp only [List.getElem?_toArray, List.getElem?_cons_succ, List.getElem?_cons_zero] at h0
  have HN0 := fun w' (hd : ReadsInt w' .u8 A xs.length xs) => number_calls A c xs w' hd hc h.bytes h.small
  rw [hd] at HN0
  have HN := Lib.hid HN0
  have Hr := Lib.hid hr
  have hsm := h.small
  have hk0 : (((k : Nat) : Int) == 0) = false := by rw [beq_eq_false_iff_ne]; omega
  have hd0 : decide (most < 0) = false := decide_eq_false (by omega)
  have hd1 : decide (most < (m : Int)) = false := decide_eq_false (by omega)
  have hd2 : decide (xs.length - k < m) = false := decide_eq_false (by omega)
  have b0 : 0 ≤ most ∧ most < 18446744073709551616 := by omega
  have b1 : k ≤ xs.length := by omega
  have b3 : xs.length - k < 18446744073709551616 := by omega
  have b4 : m ≤ 140737488355328 := by omega
  have b5 : k + m ≤ 140737488355328 := by omega
  obtain ⟨i0, hi, hz0, hz1, hz2⟩ := info_parts infoU8
  have hmid := cut_mid (P := Try.prog) 26 5 .i64 .i64 Try.underlying26 hi 1 hz1 A xs.length c (k : Int) ((k : Int) + (m : Int)) (by omega) (by omega) (by omega) hc
  have hrm := reads_mid hr c k m hkm hc
  rw [show ((k : Int) + (m : Int)).toNat = k + m by omega] at hmid
  simp only [Int.toNat_natCast] at hmid
  rw [show k + m - k = m by omega] at hmid
  obtain ⟨A2, hA2⟩ : ∃ A2, A2 = (if c = k then A else A.map (·.add (k * 1))) := ⟨_, rfl⟩
  rw [← hA2] at hmid hrm
  obtain ⟨A', hcut, hrd, hA'⟩ := cutFrom A xs c (k + m) hkm hc
  simp only [Int.natCast_add] at hcut
  have hconv : ∀ n : Nat, (convert 26 9 (.slice A2 m (c - k))).run Try.prog (w.drewN n) = .ok (.string (strOfNums ((xs.drop k).take m))) (w.drewN n) := fun n =>
    string_of_reads (src := 26) Try.underlying26 Try.underlying5 Try.underlying9 (hrm.below (pw_below_drewN (Below.refl _ _) n))
  obtain ⟨T, hT⟩ : ∃ T, T = strOfNums ((xs.drop k).take m) := ⟨_, rfl⟩
  rw [← hT] at hconv ⊢
  have HB := Lib.hid hb
  have HM := Lib.hid hrd
  have HA := Lib.hid hA'
  have Hkm := Lib.hid hkm
  have ew : IntKind.u64.wrap most = most := CF.wu64_id _ b0.1 b0.2
  have ew2 := wsub xs.length k b1 hsm
  have ew3 := wu64n (xs.length - k) b3
  have ew4 := w64n m b4
  have ew5 := wadd k m b5
  clear hb hc hr hne h HN0 hd hk hm hm2 hkm hmw hA2 hrm hrd hA' hT hsm hz0 hz1 hz2 hi b0 b1 b3 b4 b5
  go_enter Try.func25, Try.ntmps25
  go_wp2_with (first | (go_at_call 35; refine (fine_calls g xs false _ H.out).mono ?_; rintro e w' ⟨rfl, ⟨nd, rfl⟩⟩) | (go_at_call 36; refine (HN.out _ (Hr.out.below (pw_below_drewN (Below.refl _ _) _))).mono ?_; rintro e w' ⟨rfl, ⟨nd2, rfl⟩⟩))
  go_ret
  exact ⟨rfl, (H.out.drewN _).moves (blk_drewN HB.out _) Hkm.out HM.out HA.out, gset (gdrewN (World.grownBy.refl _ _) _) _ _⟩
theorem text_calls (g : Nat) (xs : List Int) (br : Bool) (most : Int) (w : World) (hmw : most < 9223372036854775808) (h : Rdr w g xs br) :
    Calls Try.prog 25 #[.pointer (some ⟨g, 0, none⟩), .int .i64 most] w fun e w' => e = .returned (.string (strOfNums (rText (xs, br) most).1)) ∧ Rdr w' g (rText (xs, br) most).2.1 (rText (xs, br) most).2.2 ∧ w.grownBy w' (some g) := by
  unfold rText
  cases br with
  | true => exact text_broken g xs most w h
  | false =>
    simp only [Bool.false_eq_true, if_false]
    by_cases hn : (dec xs).2 = 0 ∨ most < 0 ∨ ((dec xs).1 : Int) > most ∨ (dec xs).1 > xs.length - (dec xs).2
    · rw [if_pos hn]; exact text_no g xs most w hmw h _ _ rfl hn
    · rw [if_neg hn]
      have hk : (dec xs).2 ≠ 0 := fun e => hn (.inl e)
      have : (dec xs).2 ≤ xs.length := (dec_back xs h.bytes _ _ rfl hk).2.2.2.1
      exact text_ok g xs most w hmw h _ _ rfl hk (by omega) (by omega) (by omega)
end Go.Proofs.Ythgahepldlicbaa.BR
