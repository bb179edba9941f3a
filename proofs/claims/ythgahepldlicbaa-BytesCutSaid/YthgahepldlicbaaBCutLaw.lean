/- What is laid, and cut off anywhere, breaks the reader. -/
import Derived.Test.YthgahepldlicbaaBThings
import Derived.Test.YthgahepldlicbaaBWorks
import Derived.Outline
namespace Go.Proofs.Ythgahepldlicbaa.BP
open Go.RowKit Go.Proofs.YthgahepldlicbaaW.PrintWords Go.Proofs.YthgahepldlicbaaW.PrintLast Go.Proofs.YthgahepldlicbaaW.PrintMore Go.Proofs.Ythgahepldlicbaa.CD Go.Proofs.Ythgahepldlicbaa.BR Go.Proofs.Ythgahepldlicbaa.CR
set_option linter.unusedVariables false
set_option linter.unusedSimpArgs false
theorem back_goes (g : Nat) (rest : List Int) (q : Thing) (w : World) (h : Rdr w g (tEnc q ++ rest) false) (hn : q.2.1 < 18446744073709551616) :
    Calls Try.prog 29 #[.pointer (some ⟨g, 0, none⟩), .agg #[.int .i64 q.1, .int .u64 (q.2.1 : Int), .string q.2.2]] w fun e w' => e = .returned (.bool true) ∧ Rdr w' g rest false ∧ w.grownBy w' (some g) := by
  have h1 := back_calls g (tEnc q ++ rest) false q.1 q.2.1 q.2.2 w h hn
  rw [show ((q.1, q.2.1, q.2.2) : Thing) = q from rfl, back_ok q rest hn] at h1
  exact h1
theorem back_stops (g : Nat) (r : Nat) (q : Thing) (w : World) (h : Rdr w g ((tEnc q).take r) false) (hn : q.2.1 < 18446744073709551616) (hr : r < (tEnc q).length) :
    Calls Try.prog 29 #[.pointer (some ⟨g, 0, none⟩), .agg #[.int .i64 q.1, .int .u64 (q.2.1 : Int), .string q.2.2]] w fun e w' => ∃ (b : Bool) (l : List Int), e = .returned (.bool b) ∧ Rdr w' g l true ∧ w.grownBy w' (some g) := by
  refine (back_calls g ((tEnc q).take r) false q.1 q.2.1 q.2.2 w h hn).mono ?_
  rintro e w' ⟨rfl, h2, h3⟩
  rw [show ((q.1, q.2.1, q.2.2) : Thing) = q from rfl, back_cut q r hn hr] at h2
  exact ⟨_, _, rfl, h2, h3⟩
set_option maxHeartbeats 1000000 in
set_option maxRecDepth 100000 in
theorem cutLawA (A : Option Addr) (n c : Nat) (qs : List Thing) (a0 : Int) (w : World) (hn : n ≤ c) (hm : c ≤ maxLen) (hp : Things w A n qs) (ha : -9223372036854775808 ≤ a0 ∧ a0 ≤ 9223372036854775807) (hle : n ≤ 20) :
    Calls Try.prog 6 #[.slice A n c, .int .i64 a0] w fun e w' => e = .returned (.bool true) ∧ Below w.heap.size w w' := by
  have HP := Lib.hid hp
  have hq := hp.1
  have hsm := Lib.hid hp.small
  have hn63 : n ≤ 9223372036854775807 := by simp [maxLen] at hm; omega
  obtain ⟨F, hF⟩ : ∃ F : Nat → List Int, ∀ j, F j = tAll ((qs.take n).drop j) := ⟨_, fun _ => rfl⟩
  have HF := Lib.hid hF
  clear hp hm hF
  go_enter Try.func6, Try.ntmps6
  go_wp2_with fail
  go_loopw [5, 7] (fun bv iv W => ∃ j : Nat, j ≤ n ∧ iv = .int .i64 (j : Int) ∧ Aside0 (OB W w.heap.size bv (tAll (qs.take j))) ∧ Aside0 (Below w.heap.size w W)) (fun _ iv _ => n - (intOf iv).toNat)
  case atStart => exact ⟨0, by omega, rfl, ⟨own_nil _ _ _ _⟩, ⟨Below.refl _ _⟩⟩
  case round =>
    obtain ⟨j, hj, rfl, ⟨ho⟩, ⟨hb⟩⟩ := hrel
    have HBj := Lib.hid hb
    obtain ⟨L, hL⟩ : ∃ L, L = tAll (qs.take j) := ⟨_, rfl⟩
    rw [← hL] at ho
    have hLl : L.length ≤ 210 * j := by
      rw [hL]; have := tAll_len (qs.take j); rw [List.length_take] at this; have : 210 * min j qs.length ≤ 210 * j := Nat.mul_le_mul_left _ (Nat.min_le_left _ _); omega
    have HL := Lib.hid hL
    obtain ⟨A5, c5, rfl, hc5, hr5⟩ := ho.slice
    have HO := Lib.hid ho
    have HR5 := Lib.hid hr5
    have HC5 := Lib.hid hc5
    clear hr5 hc5 ho hL hb
    by_cases hlt : j < n
    · obtain ⟨ad, rfl, z0, z1, z2⟩ := (HP.out.below HBj.out).at_ j (by omega)
      have HZ := Lib.hid (HP.out.small_at j (by omega))
      have HS := Lib.hid (tAll_step qs j (by omega))
      obtain ⟨q, hqj⟩ : ∃ q, q = qs.getD j T0 := ⟨_, rfl⟩
      rw [← hqj] at HZ HS z0 z1 z2
      rw [← HL.out] at HS
      clear hqj
      go_wp2_with fail
      refine (lay_calls A5 c5 L q.1 q.2.1 q.2.2 _ HR5.out HC5.out HZ.out (by omega)).mono ?_; rintro e w3 ⟨v3, rfl, ho3, hb3⟩; have HO3 := Lib.hid ho3; have HB3 := Lib.hid (below_step HBj.out hb3); clear ho3 hb3
      go_wp2
      go_roundw
      case rel => exact ⟨j + 1, by omega, by go_num, ⟨by rw [HS.out]; exact OB.base HO3.out HBj.out.size⟩, ⟨HB3.out⟩⟩
      case measure => simp [intOf]; omega
    · have hjm : j = n := by omega
      subst j
      have hXb : Bytes L := by rw [HL.out]; exact tAll_bytes _ fun q hq' => hsm.out q (List.mem_of_mem_take hq')
      have HXb := Lib.hid hXb
      have HX0 : Hid (F 0 = L) := Lib.hid (by rw [HF.out, HL.out]; rfl)
      have HFm : Hid (F n = []) := Lib.hid (by rw [HF.out, List.drop_of_length_le (by rw [List.length_take]; omega)]; rfl)
      clear hXb
      rcases Nat.eq_zero_or_pos L.length with hz | hz
      · have ez : ((L.length : Int) == 0) = true := beq_iff_eq.mpr (by omega)
        clear hz
        go_wp2_with fail
        refine (works_calls _).mono ?_; rintro e w9 ⟨rfl, hb9⟩
        have HB9 := Lib.hid (below_step HBj.out hb9)
        clear hb9
        go_wp2
        go_ret
        exact ⟨rfl, HB9.out⟩
      · have ez : ((L.length : Int) == 0) = false := beq_eq_false_iff_ne.mpr (by omega)
        have hl8 : L.length < 9223372036854775807 := by omega
        obtain ⟨a, haL, hcase⟩ : ∃ a : Nat, a < L.length ∧ ((a0 < 0 ∧ (L.length : Int) - 1 = (a : Int)) ∨ (¬ a0 < 0 ∧ (L.length : Int) ≤ a0 ∧ (L.length : Int) - 1 = (a : Int)) ∨ (¬ a0 < 0 ∧ ¬ (L.length : Int) ≤ a0 ∧ a0 = (a : Int))) := by
          rcases (by omega : a0 < 0 ∨ 0 ≤ a0) with h | h
          · exact ⟨L.length - 1, by omega, .inl ⟨h, by omega⟩⟩
          · rcases (by omega : a0 < (L.length : Int) ∨ (L.length : Int) ≤ a0) with h' | h'
            · exact ⟨a0.toNat, by omega, .inr (.inr ⟨by omega, by omega, by omega⟩)⟩
            · exact ⟨L.length - 1, by omega, .inr (.inl ⟨by omega, h', by omega⟩)⟩
        have hto := cut_to (P := Try.prog) 26 5 .i64 Try.underlying26 (info_parts infoU8).choose_spec.1 A5 L.length c5 (a : Int) (by omega) (by omega) HC5.out
        simp only [Int.toNat_natCast] at hto
        obtain ⟨Y, hY⟩ : ∃ Y, Y = L.take a := ⟨_, rfl⟩
        have hYl : Y.length = a := by rw [hY, List.length_take]; omega
        have hac : a ≤ c5 := by have := HC5.out; omega
        have HYR : Hid (∀ W, Below wr.heap.size wr W → ReadsInt W .u8 A5 Y.length Y) := Lib.hid (fun W h => by rw [hYl, hY]; exact (HR5.out.below h).take_ a (by omega))
        have HYB : Hid (Bytes Y) := Lib.hid (by rw [hY]; exact HXb.out.take a)
        have HY0 : Hid (Y = (F 0).take a) := Lib.hid (by rw [HX0.out]; exact hY)
        have HY8 : Hid (Y.length ≤ 140737488355328) := Lib.hid (by omega)
        have HYc : Hid (Y.length ≤ c5) := Lib.hid (by omega)
        have Hr0 : Hid (a < (F 0).length) := Lib.hid (by rw [HX0.out]; exact haL)
        have HYl := Lib.hid hYl
        clear hY hYl
        rcases hcase with ⟨k1, k2⟩ | ⟨k1, k2, k3⟩ | ⟨k1, k2, rfl⟩
        all_goals (
          go_wp2_with fail
          have hnew := new_calls A5 c5 Y _ (HYR.out _ (Below.refl _ _)) HYc.out HYB.out HY8.out
          rw [HYl.out] at hnew
          refine hnew.mono ?_; clear hnew; rintro e w5 ⟨g, rfl, hg5, hr5, hb5⟩
          have HB5 := Lib.hid (below_step HBj.out hb5)
          have HG := Lib.hid (Nat.le_trans HBj.out.size hg5)
          have HR7 := Lib.hid (HY0.out ▸ hr5)
          clear hg5 hr5 hb5
          go_wp2_with fail
          go_loopw [9] (fun iv W => ∃ j r : Nat, j ≤ n ∧ iv = .int .i64 (j : Int) ∧ Aside0 (r < (F j).length) ∧ Aside0 (Rdr W g ((F j).take r) false) ∧ Aside0 (Below w.heap.size w W)) (fun iv _ => n - (intOf iv).toNat)
          case atStart => exact ⟨0, a, by omega, rfl, ⟨Hr0.out⟩, ⟨HR7.out⟩, ⟨HB5.out⟩⟩
          case round =>
            obtain ⟨j, r, hj2, rfl, ⟨hrl⟩, ⟨hr⟩, ⟨hb⟩⟩ := hrel
            have HBj2 := Lib.hid hb
            have hlt2 : j < n := by
              rcases Nat.lt_or_ge j n with h | h
              · exact h
              · have e : j = n := by omega
                rw [e, HFm.out] at hrl
                exact absurd hrl (by simp)
            have hstep : F j = tEnc (qs.getD j T0) ++ F (j + 1) := by rw [HF.out, HF.out]; exact tAll_from qs n j hlt2 (by omega)
            obtain ⟨ad, rfl, z0, z1, z2⟩ := (HP.out.below HBj2.out).at_ j (by omega)
            have HZ := Lib.hid (HP.out.small_at j (by omega))
            obtain ⟨q, hqj⟩ : ∃ q, q = qs.getD j T0 := ⟨_, rfl⟩
            rw [← hqj] at HZ hstep z0 z1 z2
            clear hqj hb
            by_cases hcut : r < (tEnc q).length
            · have HRj := Lib.hid (show Rdr wr g ((tEnc q).take r) false by rw [hstep, List.take_append_of_le_length (by omega)] at hr; exact hr)
              have HCUT := Lib.hid hcut
              clear hr hstep hrl hcut
              go_wp2_with fail
              refine (back_stops g r q _ HRj.out HZ.out HCUT.out).mono ?_; rintro e w6 ⟨b, l, rfl, hr6, hg6⟩; have HR6' := Lib.hid hr6; have HB6 := Lib.hid (belowg HBj2.out hg6 HBj2.out.size HG.out); clear hr6 hg6
              go_wp2_with fail
              refine (err_calls g _ true _ HR6'.out).mono ?_; rintro e w7 ⟨rfl, ⟨n7, rfl⟩⟩
              go_wp2_with fail
              refine (works_calls _).mono ?_; rintro e w9 ⟨rfl, hb9⟩
              have HB9 := Lib.hid (below_step (pw_below_drewN HB6.out n7) hb9)
              clear hb9
              go_wp2
              go_ret
              exact ⟨rfl, HB9.out⟩
            · have e1 : (F j).take r = tEnc q ++ (F (j + 1)).take (r - (tEnc q).length) := by rw [hstep, List.take_append, List.take_of_length_le (by omega)]
              have HRJ := Lib.hid (show r - (tEnc q).length < (F (j + 1)).length by rw [hstep, List.length_append] at hrl; omega)
              have HRj := Lib.hid (e1 ▸ hr)
              clear hr hstep hrl hcut e1
              go_wp2_with fail
              refine (back_goes g _ q _ HRj.out HZ.out).mono ?_; rintro e w6 ⟨rfl, hr6, hg6⟩; have HR6' := Lib.hid hr6; have HB6 := Lib.hid (belowg HBj2.out hg6 HBj2.out.size HG.out); clear hr6 hg6
              go_wp2_with fail
              refine (err_calls g _ false _ HR6'.out).mono ?_; rintro e w7 ⟨rfl, ⟨n7, rfl⟩⟩
              go_wp2
              go_roundw
              case rel => exact ⟨j + 1, _, by omega, by go_num, ⟨HRJ.out⟩, ⟨HR6'.out.drewN _⟩, ⟨pw_below_drewN HB6.out _⟩⟩
              case measure => simp [intOf]; omega)
set_option maxHeartbeats 1000000 in
set_option maxRecDepth 100000 in
theorem cutLawB (A : Option Addr) (n c : Nat) (qs : List Thing) (a0 : Int) (w : World) (hn : n ≤ c) (hm : c ≤ maxLen) (hp : Things w A n qs) (ha : -9223372036854775808 ≤ a0 ∧ a0 ≤ 9223372036854775807) (hle : 20 < n) :
    Calls Try.prog 6 #[.slice A n c, .int .i64 a0] w fun e w' => e = .returned (.bool true) ∧ Below w.heap.size w w' := by
  have HP := Lib.hid hp
  have hq := hp.1
  have hsm := Lib.hid hp.small
  have hn63 : n ≤ 9223372036854775807 := by simp [maxLen] at hm; omega
  obtain ⟨F, hF⟩ : ∃ F : Nat → List Int, ∀ j, F j = tAll ((qs.take 20).drop j) := ⟨_, fun _ => rfl⟩
  have HF := Lib.hid hF
  clear hp hm hF
  go_enter Try.func6, Try.ntmps6
  go_wp2_with fail
  go_loopw [5, 7] (fun bv iv W => ∃ j : Nat, j ≤ 20 ∧ iv = .int .i64 (j : Int) ∧ Aside0 (OB W w.heap.size bv (tAll (qs.take j))) ∧ Aside0 (Below w.heap.size w W)) (fun _ iv _ => 20 - (intOf iv).toNat)
  case atStart => exact ⟨0, by omega, rfl, ⟨own_nil _ _ _ _⟩, ⟨Below.refl _ _⟩⟩
  case round =>
    obtain ⟨j, hj, rfl, ⟨ho⟩, ⟨hb⟩⟩ := hrel
    have HBj := Lib.hid hb
    obtain ⟨L, hL⟩ : ∃ L, L = tAll (qs.take j) := ⟨_, rfl⟩
    rw [← hL] at ho
    have hLl : L.length ≤ 210 * j := by
      rw [hL]; have := tAll_len (qs.take j); rw [List.length_take] at this; have : 210 * min j qs.length ≤ 210 * j := Nat.mul_le_mul_left _ (Nat.min_le_left _ _); omega
    have HL := Lib.hid hL
    obtain ⟨A5, c5, rfl, hc5, hr5⟩ := ho.slice
    have HO := Lib.hid ho
    have HR5 := Lib.hid hr5
    have HC5 := Lib.hid hc5
    clear hr5 hc5 ho hL hb
    by_cases hlt : j < 20
    · obtain ⟨ad, rfl, z0, z1, z2⟩ := (HP.out.below HBj.out).at_ j (by omega)
      have HZ := Lib.hid (HP.out.small_at j (by omega))
      have HS := Lib.hid (tAll_step qs j (by omega))
      obtain ⟨q, hqj⟩ : ∃ q, q = qs.getD j T0 := ⟨_, rfl⟩
      rw [← hqj] at HZ HS z0 z1 z2
      rw [← HL.out] at HS
      clear hqj
      go_wp2_with fail
      refine (lay_calls A5 c5 L q.1 q.2.1 q.2.2 _ HR5.out HC5.out HZ.out (by omega)).mono ?_; rintro e w3 ⟨v3, rfl, ho3, hb3⟩; have HO3 := Lib.hid ho3; have HB3 := Lib.hid (below_step HBj.out hb3); clear ho3 hb3
      go_wp2
      go_roundw
      case rel => exact ⟨j + 1, by omega, by go_num, ⟨by rw [HS.out]; exact OB.base HO3.out HBj.out.size⟩, ⟨HB3.out⟩⟩
      case measure => simp [intOf]; omega
    · have hjm : j = 20 := by omega
      subst j
      have hXb : Bytes L := by rw [HL.out]; exact tAll_bytes _ fun q hq' => hsm.out q (List.mem_of_mem_take hq')
      have HXb := Lib.hid hXb
      have HX0 : Hid (F 0 = L) := Lib.hid (by rw [HF.out, HL.out]; rfl)
      have HFm : Hid (F 20 = []) := Lib.hid (by rw [HF.out, List.drop_of_length_le (by rw [List.length_take]; omega)]; rfl)
      clear hXb
      rcases Nat.eq_zero_or_pos L.length with hz | hz
      · have ez : ((L.length : Int) == 0) = true := beq_iff_eq.mpr (by omega)
        clear hz
        go_wp2_with fail
        refine (works_calls _).mono ?_; rintro e w9 ⟨rfl, hb9⟩
        have HB9 := Lib.hid (below_step HBj.out hb9)
        clear hb9
        go_wp2
        go_ret
        exact ⟨rfl, HB9.out⟩
      · have ez : ((L.length : Int) == 0) = false := beq_eq_false_iff_ne.mpr (by omega)
        have hl8 : L.length < 9223372036854775807 := by omega
        obtain ⟨a, haL, hcase⟩ : ∃ a : Nat, a < L.length ∧ ((a0 < 0 ∧ (L.length : Int) - 1 = (a : Int)) ∨ (¬ a0 < 0 ∧ (L.length : Int) ≤ a0 ∧ (L.length : Int) - 1 = (a : Int)) ∨ (¬ a0 < 0 ∧ ¬ (L.length : Int) ≤ a0 ∧ a0 = (a : Int))) := by
          rcases (by omega : a0 < 0 ∨ 0 ≤ a0) with h | h
          · exact ⟨L.length - 1, by omega, .inl ⟨h, by omega⟩⟩
          · rcases (by omega : a0 < (L.length : Int) ∨ (L.length : Int) ≤ a0) with h' | h'
            · exact ⟨a0.toNat, by omega, .inr (.inr ⟨by omega, by omega, by omega⟩)⟩
            · exact ⟨L.length - 1, by omega, .inr (.inl ⟨by omega, h', by omega⟩)⟩
        have hto := cut_to (P := Try.prog) 26 5 .i64 Try.underlying26 (info_parts infoU8).choose_spec.1 A5 L.length c5 (a : Int) (by omega) (by omega) HC5.out
        simp only [Int.toNat_natCast] at hto
        obtain ⟨Y, hY⟩ : ∃ Y, Y = L.take a := ⟨_, rfl⟩
        have hYl : Y.length = a := by rw [hY, List.length_take]; omega
        have hac : a ≤ c5 := by have := HC5.out; omega
        have HYR : Hid (∀ W, Below wr.heap.size wr W → ReadsInt W .u8 A5 Y.length Y) := Lib.hid (fun W h => by rw [hYl, hY]; exact (HR5.out.below h).take_ a (by omega))
        have HYB : Hid (Bytes Y) := Lib.hid (by rw [hY]; exact HXb.out.take a)
        have HY0 : Hid (Y = (F 0).take a) := Lib.hid (by rw [HX0.out]; exact hY)
        have HY8 : Hid (Y.length ≤ 140737488355328) := Lib.hid (by omega)
        have HYc : Hid (Y.length ≤ c5) := Lib.hid (by omega)
        have Hr0 : Hid (a < (F 0).length) := Lib.hid (by rw [HX0.out]; exact haL)
        have HYl := Lib.hid hYl
        clear hY hYl
        rcases hcase with ⟨k1, k2⟩ | ⟨k1, k2, k3⟩ | ⟨k1, k2, rfl⟩
        all_goals (
          go_wp2_with fail
          have hnew := new_calls A5 c5 Y _ (HYR.out _ (Below.refl _ _)) HYc.out HYB.out HY8.out
          rw [HYl.out] at hnew
          refine hnew.mono ?_; clear hnew; rintro e w5 ⟨g, rfl, hg5, hr5, hb5⟩
          have HB5 := Lib.hid (below_step HBj.out hb5)
          have HG := Lib.hid (Nat.le_trans HBj.out.size hg5)
          have HR7 := Lib.hid (HY0.out ▸ hr5)
          clear hg5 hr5 hb5
          go_wp2_with fail
          go_loopw [9] (fun iv W => ∃ j r : Nat, j ≤ 20 ∧ iv = .int .i64 (j : Int) ∧ Aside0 (r < (F j).length) ∧ Aside0 (Rdr W g ((F j).take r) false) ∧ Aside0 (Below w.heap.size w W)) (fun iv _ => 20 - (intOf iv).toNat)
          case atStart => exact ⟨0, a, by omega, rfl, ⟨Hr0.out⟩, ⟨HR7.out⟩, ⟨HB5.out⟩⟩
          case round =>
            obtain ⟨j, r, hj2, rfl, ⟨hrl⟩, ⟨hr⟩, ⟨hb⟩⟩ := hrel
            have HBj2 := Lib.hid hb
            have hlt2 : j < 20 := by
              rcases Nat.lt_or_ge j 20 with h | h
              · exact h
              · have e : j = 20 := by omega
                rw [e, HFm.out] at hrl
                exact absurd hrl (by simp)
            have hstep : F j = tEnc (qs.getD j T0) ++ F (j + 1) := by rw [HF.out, HF.out]; exact tAll_from qs 20 j hlt2 (by omega)
            obtain ⟨ad, rfl, z0, z1, z2⟩ := (HP.out.below HBj2.out).at_ j (by omega)
            have HZ := Lib.hid (HP.out.small_at j (by omega))
            obtain ⟨q, hqj⟩ : ∃ q, q = qs.getD j T0 := ⟨_, rfl⟩
            rw [← hqj] at HZ hstep z0 z1 z2
            clear hqj hb
            by_cases hcut : r < (tEnc q).length
            · have HRj := Lib.hid (show Rdr wr g ((tEnc q).take r) false by rw [hstep, List.take_append_of_le_length (by omega)] at hr; exact hr)
              have HCUT := Lib.hid hcut
              clear hr hstep hrl hcut
              go_wp2_with fail
              refine (back_stops g r q _ HRj.out HZ.out HCUT.out).mono ?_; rintro e w6 ⟨b, l, rfl, hr6, hg6⟩; have HR6' := Lib.hid hr6; have HB6 := Lib.hid (belowg HBj2.out hg6 HBj2.out.size HG.out); clear hr6 hg6
              go_wp2_with fail
              refine (err_calls g _ true _ HR6'.out).mono ?_; rintro e w7 ⟨rfl, ⟨n7, rfl⟩⟩
              go_wp2_with fail
              refine (works_calls _).mono ?_; rintro e w9 ⟨rfl, hb9⟩
              have HB9 := Lib.hid (below_step (pw_below_drewN HB6.out n7) hb9)
              clear hb9
              go_wp2
              go_ret
              exact ⟨rfl, HB9.out⟩
            · have e1 : (F j).take r = tEnc q ++ (F (j + 1)).take (r - (tEnc q).length) := by rw [hstep, List.take_append, List.take_of_length_le (by omega)]
              have HRJ := Lib.hid (show r - (tEnc q).length < (F (j + 1)).length by rw [hstep, List.length_append] at hrl; omega)
              have HRj := Lib.hid (e1 ▸ hr)
              clear hr hstep hrl hcut e1
              go_wp2_with fail
              refine (back_goes g _ q _ HRj.out HZ.out).mono ?_; rintro e w6 ⟨rfl, hr6, hg6⟩; have HR6' := Lib.hid hr6; have HB6 := Lib.hid (belowg HBj2.out hg6 HBj2.out.size HG.out); clear hr6 hg6
              go_wp2_with fail
              refine (err_calls g _ false _ HR6'.out).mono ?_; rintro e w7 ⟨rfl, ⟨n7, rfl⟩⟩
              go_wp2
              go_roundw
              case rel => exact ⟨j + 1, _, by omega, by go_num, ⟨HRJ.out⟩, ⟨HR6'.out.drewN _⟩, ⟨pw_below_drewN HB6.out _⟩⟩
              case measure => simp [intOf]; omega)
theorem cutWalk {H : Type} {enc : TypeId × Value → H} {Q : Prop} (v : Value) (d : DataW H) (p : List MemPlace) (a : Int) (w : World) {base : Nat} {held : Bool} {r : Reach} {b0 : Nat}
    (hv : Value.okWide Try.prog w r b0 51 v) (h : DataW.Trod enc Try.prog w base (fun _ => true) held 51 v d p) (ha : (Lit.int .i64 a).wf = true) (hq : Q) :
    Calls Try.prog 6 #[v, .int .i64 a] w fun e w' => e = .returned (.bool true) ∧ Below w.heap.size w w' := by
  obtain ⟨A, n, c, qs, rfl, hn, hm, hp⟩ := open_things Try.underlying51 Try.underlying54 (by kernel_rfl) (by kernel_rfl) Try.underlying3 Try.underlying22 Try.underlying9 hv h
  have b2 : (-9223372036854775808 : Int) ≤ a ∧ a ≤ 9223372036854775807 := (Lit.wf_int_iff .i64 a).mp ha
  rcases Nat.lt_or_ge 20 n with h | h
  · exact cutLawB A n c qs a w hn hm hp b2 h
  · exact cutLawA A n c qs a w hn hm hp b2 h
end Go.Proofs.Ythgahepldlicbaa.BP
