/- Walk of a reader's Fixed. -/
import Derived.Test.YthgahepldlicbaaBRdr2
namespace Go.Proofs.Ythgahepldlicbaa.BR
open Go.RowKit Go.Proofs.YthgahepldlicbaaW.PrintWords Go.Proofs.YthgahepldlicbaaW.PrintLast Go.Proofs.YthgahepldlicbaaW.PrintMore Go.Proofs.Ythgahepldlicbaa.CD
set_option linter.unusedVariables false
set_option linter.unusedSimpArgs false
def rFixed (s : St) (width : Int) : Nat × St := if s.2 then (0, s) else if width < 1 ∨ width > 8 ∨ width > (s.1.length : Int) then (0, (s.1, true)) else (unfixed (s.1.take width.toNat), (s.1.drop width.toNat, false))
set_option maxRecDepth 100000 in
theorem fixed_broken (g : Nat) (xs : List Int) (width : Int) (w : World) (h : Rdr w g xs true) :
    Calls Try.prog 33 #[.pointer (some ⟨g, 0, none⟩), .int .i64 width] w fun e w' => e = .returned (.int .u64 0) ∧ Rdr w' g xs true ∧ w.grownBy w' (some g) := by
  have H := Lib.hid h
  clear h
  go_enter Try.func33, Try.ntmps33
  go_wp2_with (go_at_call 35; refine (fine_calls g xs true _ H.out).mono ?_; rintro e w' ⟨rfl, ⟨nd, rfl⟩⟩)
  go_ret
  exact ⟨rfl, H.out.drewN _, gdrewN (World.grownBy.refl _ _) _⟩
set_option maxHeartbeats 400000 in
set_option maxRecDepth 100000 in
theorem fixed_no (g : Nat) (xs : List Int) (width : Int) (w : World) (h : Rdr w g xs false) (hn : width < 1 ∨ width > 8 ∨ width > (xs.length : Int)) :
    Calls Try.prog 33 #[.pointer (some ⟨g, 0, none⟩), .int .i64 width] w fun e w' => e = .returned (.int .u64 0) ∧ Rdr w' g xs true ∧ w.grownBy w' (some g) := by
  have H := Lib.hid h
  obtain ⟨A, c, hb, hc, hr, hne⟩ := h.cell
  have h0 := blk_cell hb 0
  have h2 := blk_cell hb 2
  have f2 := blk_frozen hb 2
  simp only [List.getElem?_toArray, List.getElem?_cons_succ, List.getElem?_cons_zero] at h0 h2
  clear hb hc hr hne h
  by_cases h1 : width < 1
  · have hd : decide (width < 1) = true := decide_eq_true h1
    clear hn h1
    go_enter Try.func33, Try.ntmps33
    go_wp2_with (go_at_call 35; refine (fine_calls g xs false _ H.out).mono ?_; rintro e w' ⟨rfl, ⟨nd, rfl⟩⟩)
    go_ret
    exact ⟨rfl, (H.out.drewN _).breaks, gset (gdrewN (World.grownBy.refl _ _) _) _ _⟩
  have hd : decide (width < 1) = false := decide_eq_false h1
  by_cases h8 : width > 8
  · have hd8 : decide (8 < width) = true := decide_eq_true h8
    clear hn h1 h8
    go_enter Try.func33, Try.ntmps33
    go_wp2_with (go_at_call 35; refine (fine_calls g xs false _ H.out).mono ?_; rintro e w' ⟨rfl, ⟨nd, rfl⟩⟩)
    go_ret
    exact ⟨rfl, (H.out.drewN _).breaks, gset (gdrewN (World.grownBy.refl _ _) _) _ _⟩
  have hd8 : decide (8 < width) = false := decide_eq_false h8
  have hdl : decide ((xs.length : Int) < width) = true := decide_eq_true (by omega)
  clear hn h1 h8
  go_enter Try.func33, Try.ntmps33
  go_wp2_with (go_at_call 35; refine (fine_calls g xs false _ H.out).mono ?_; rintro e w' ⟨rfl, ⟨nd, rfl⟩⟩)
  go_ret
  exact ⟨rfl, (H.out.drewN _).breaks, gset (gdrewN (World.grownBy.refl _ _) _) _ _⟩
theorem unfixed_snoc : ∀ (l : List Int) (c : Int), unfixed (l ++ [c]) = unfixed l + c.toNat * 256 ^ l.length
  | [], c => by simp [unfixed]
  | b :: l, c => by
    simp only [List.cons_append, unfixed, unfixed_snoc l c, List.length_cons, Nat.pow_succ]
    rw [Nat.mul_add, ← Nat.add_assoc, Nat.mul_comm (256 ^ l.length) 256, Nat.mul_left_comm]
theorem or_fixed (xs : List Int) (hx : Bytes xs) (j : Nat) (hj : j < xs.length) (h8 : j < 8) :
    bits .or .u64 ((unfixed (xs.take j) : Nat) : Int) (IntKind.u64.wrap (IntKind.u64.wrap (xs[j]?.getD 0) * 2 ^ (8 * j))) = ((unfixed (xs.take (j + 1)) : Nat) : Int) := by
  obtain ⟨hc0, hc1⟩ := hx _ (List.getElem_mem hj)
  obtain ⟨c, hc⟩ : ∃ c : Nat, xs[j] = (c : Int) := ⟨xs[j].toNat, by omega⟩
  rw [hc] at hc0 hc1
  have hl : (xs.take j).length = j := by rw [List.length_take]; omega
  have hlt := unfixed_lt (xs.take j) (hx.take j)
  rw [hl] at hlt
  have hp : (256 : Nat) ^ j = 2 ^ (8 * j) := by rw [show (256 : Nat) = 2 ^ 8 by decide, ← Nat.pow_mul]
  have h7 : 256 ^ j ≤ 256 ^ 7 := Nat.pow_le_pow_right (by decide) (by omega)
  have h9 : c * 256 ^ j ≤ 255 * 256 ^ 7 := Nat.mul_le_mul (by omega) h7
  simp only [show 255 * (256 : Nat) ^ 7 = 18374686479671623680 by decide] at h9
  simp only [show (256 : Nat) ^ 7 = 72057594037927936 by decide] at h7
  rw [List.take_succ_eq_append_getElem hj, hc, unfixed_snoc, hl, Int.toNat_natCast, List.getElem?_eq_getElem hj, hc, Option.getD_some]
  generalize unfixed (xs.take j) = m at *
  have e1 : IntKind.u64.wrap (IntKind.u64.wrap (c : Int) * 2 ^ (8 * j)) = ((c * 256 ^ j : Nat) : Int) := by
    rw [CF.wu64_id (c : Int) (by omega) (by omega), show ((c : Int) * 2 ^ (8 * j)) = ((c * 256 ^ j : Nat) : Int) by rw [hp]; simp]
    exact CF.wu64_id _ (by omega) (by omega)
  rw [e1, (bits_nat .u64 64 (by decide) (fun n a b => CF.wu64_id n a (by simpa using b)) m (c * 256 ^ j) (by omega) (by omega)).2]
  congr 1
  rw [Nat.or_comm, hp, Nat.mul_comm, ← Nat.two_pow_add_eq_or_of_lt (by rw [← hp]; exact hlt) c]
  omega
set_option maxHeartbeats 400000 in
set_option maxRecDepth 100000 in
theorem fixed_ok (g : Nat) (xs : List Int) (k : Nat) (w : World) (h : Rdr w g xs false) (h1 : 1 ≤ k) (h8 : k ≤ 8) (hk : k ≤ xs.length) :
    Calls Try.prog 33 #[.pointer (some ⟨g, 0, none⟩), .int .i64 (k : Int)] w fun e w' => e = .returned (.int .u64 (unfixed (xs.take k) : Int)) ∧ Rdr w' g (xs.drop k) false ∧ w.grownBy w' (some g) := by
  have H := Lib.hid h
  obtain ⟨A, c, hb, hc, hr, hne⟩ := h.cell
  have h0 := blk_cell hb 0
  have f0 := blk_frozen hb 0
  simp only [List.getElem?_toArray, List.getElem?_cons_succ, List.getElem?_cons_zero] at h0
  obtain ⟨A', hcut, hrd, hA'⟩ := cutFrom A xs c k hk hc
  have HB := Lib.hid hb
  have HM := Lib.hid hrd
  have HA := Lib.hid hA'
  obtain ⟨ad, rfl, hcell⟩ := hr.2.2 (by omega)
  have HC := Lib.hid hcell
  have HBY := Lib.hid h.bytes
  have hd : decide (((k : Nat) : Int) < 1) = false := decide_eq_false (by omega)
  have hd8 : decide ((8 : Int) < (k : Int)) = false := decide_eq_false (by omega)
  have hdl : decide (xs.length < k) = false := decide_eq_false (by omega)
  clear hb hc hr hne h hrd hA' hcell
  go_enter Try.func33, Try.ntmps33
  go_wp2_with (go_at_call 35; refine (fine_calls g xs false _ H.out).mono ?_; rintro e w' ⟨rfl, ⟨nd, rfl⟩⟩)
  go_loopw [5, 29] (fun n i w' => ∃ (j m : Nat), j ≤ k ∧ i = .int .i64 (j : Int) ∧ n = .int .u64 (m : Int) ∧ Aside0 (m = unfixed (xs.take j)) ∧ Aside0 (Drawn0 w w')) (fun _ i _ => k - (intOf i).toNat)
  case atStart => exact ⟨0, 0, by omega, rfl, rfl, ⟨rfl⟩, ⟨⟨nd, rfl⟩⟩⟩
  case round =>
    obtain ⟨j, m, hj, rfl, rfl, HM5, ⟨⟨n3, rfl⟩⟩⟩ := hrel
    by_cases hlt : j < k
    · have hc0 : (w.drewN n3).cell? (ad.add j) = some (.int .u8 (xs.getD j 0)) := HC.out j (by omega)
      have hlen : (j : Int) < (xs.length : Int) := by omega
      go_wp2
      go_roundw
      case rel => exact ⟨j + 1, unfixed (xs.take (j + 1)), by omega, by go_num, by rw [← or_fixed xs HBY.out j (by omega) (by omega), HM5.out], ⟨rfl⟩, ⟨⟨n3, rfl⟩⟩⟩
      case measure => simp [intOf]; omega
    · obtain rfl : j = k := by omega
      go_wp2
      go_ret
      exact ⟨by rw [HM5.out]; rfl, (H.out.drewN _).moves (blk_drewN HB.out _) hk HM.out HA.out, gset (gdrewN (World.grownBy.refl _ _) _) _ _⟩
theorem fixed_calls (g : Nat) (xs : List Int) (br : Bool) (width : Int) (w : World) (h : Rdr w g xs br) :
    Calls Try.prog 33 #[.pointer (some ⟨g, 0, none⟩), .int .i64 width] w fun e w' => e = .returned (.int .u64 ((rFixed (xs, br) width).1 : Int)) ∧ Rdr w' g (rFixed (xs, br) width).2.1 (rFixed (xs, br) width).2.2 ∧ w.grownBy w' (some g) := by
  unfold rFixed
  cases br with
  | true => exact fixed_broken g xs width w h
  | false =>
    simp only [Bool.false_eq_true, if_false]
    by_cases hn : width < 1 ∨ width > 8 ∨ width > (xs.length : Int)
    · rw [if_pos hn]; exact fixed_no g xs width w h hn
    · rw [if_neg hn]
      obtain ⟨k, rfl⟩ : ∃ k : Nat, width = (k : Int) := ⟨width.toNat, by omega⟩
      exact fixed_ok g xs k w h (by omega) (by omega) (by omega)
end Go.Proofs.Ythgahepldlicbaa.BR
