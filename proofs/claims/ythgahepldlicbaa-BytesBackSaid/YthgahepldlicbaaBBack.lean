/- Whatever is laid one behind the other is read back just so. -/
import Derived.Test.YthgahepldlicbaaBThings
import Derived.Test.YthgahepldlicbaaBWorks
import Derived.Test.YthgahepldlicbaaBRdrEnd
import Derived.Outline
namespace Go.Proofs.Ythgahepldlicbaa.BP
open Go.RowKit Go.Proofs.YthgahepldlicbaaW.PrintWords Go.Proofs.YthgahepldlicbaaW.PrintLast Go.Proofs.YthgahepldlicbaaW.PrintMore Go.Proofs.Ythgahepldlicbaa.CD Go.Proofs.Ythgahepldlicbaa.BR Go.Proofs.Ythgahepldlicbaa.CR
set_option linter.unusedVariables false
set_option linter.unusedSimpArgs false
theorem end_ok (g : Nat) (w : World) (h : Rdr w g [] false) : Calls Try.prog 26 #[.pointer (some ⟨g, 0, none⟩)] w fun e w' => e = .returned (.int .i64 0) ∧ Rdr w' g [] false ∧ w.grownBy w' (some g) := end_calls g [] false w h
theorem back_good (g : Nat) (rest : List Int) (q : Thing) (w : World) (h : Rdr w g (tEnc q ++ rest) false) (hn : q.2.1 < 18446744073709551616) :
    Calls Try.prog 29 #[.pointer (some ⟨g, 0, none⟩), .agg #[.int .i64 q.1, .int .u64 (q.2.1 : Int), .string q.2.2]] w fun e w' => e = .returned (.bool true) ∧ Rdr w' g rest false ∧ w.grownBy w' (some g) := by
  have h1 := back_calls g (tEnc q ++ rest) false q.1 q.2.1 q.2.2 w h hn
  rw [show ((q.1, q.2.1, q.2.2) : Thing) = q from rfl, back_ok q rest hn] at h1
  exact h1
theorem hcv2 {A : Option Addr} {c : Nat} {l : List Int} {W : World} (hr : ReadsInt W .u8 A l.length l) : (convert 26 9 (.slice A l.length c)).run Try.prog W = .ok (.string (strOfNums l)) W :=
  string_of_reads (c := c) (src := 26) Try.underlying26 Try.underlying5 Try.underlying9 hr
theorem take_all (g : Nat) (t : ByteArray) (w : World) (h : Rdr w g (bytesOf t) false) :
    Calls Try.prog 27 #[.pointer (some ⟨g, 0, none⟩), .int .i64 (t.size : Int)] w fun e w' => ∃ v, e = .returned v ∧ OB w' w.heap.size v (bytesOf t) ∧ Rdr w' g [] false ∧ w.grownBy w' (some g) := by
  have h1 := take_calls g (bytesOf t) false (t.size : Int) w h
  have e : rTake (bytesOf t, false) (t.size : Int) = (bytesOf t, ([], false)) := by
    unfold rTake
    simp only [Bool.false_eq_true, if_false]
    rw [if_neg (by rw [bytesOf_length]; omega), Int.toNat_natCast, List.take_of_length_le (by rw [bytesOf_length]; omega), List.drop_of_length_le (by rw [bytesOf_length]; omega)]
  rw [e] at h1
  exact h1
set_option maxHeartbeats 1000000 in
set_option maxRecDepth 100000 in
theorem backLaw (A : Option Addr) (n c : Nat) (qs : List Thing) (s : ByteArray) (w : World) (hn : n ≤ c) (hm : c ≤ maxLen) (hp : Things w A n qs) :
    Calls Try.prog 9 #[.slice A n c, .string s] w fun e w' => e = .returned (.bool true) ∧ Below w.heap.size w w' := by
  have HC := Lib.hid (fun w' => cut_calls s 500 w' (by decide))
  obtain ⟨t, ht⟩ : ∃ t, t = cutS s 500 := ⟨_, rfl⟩
  rw [← ht] at HC
  have htl : t.size ≤ 500 := by rw [ht]; exact cutS_le _ _
  clear ht
  have HP := Lib.hid hp
  have hq := hp.1
  have hsm := Lib.hid hp.small
  have hn63 : n ≤ 9223372036854775807 := by simp [maxLen] at hm; omega
  obtain ⟨m, hmn, hm30, hcase⟩ : ∃ m, m ≤ n ∧ m ≤ 30 ∧ (decide (m < n) = false ∨ (decide (m < n) = true ∧ decide ((m : Int) < 30) = false)) := by
    rcases Nat.lt_or_ge 30 n with h | h
    · exact ⟨30, by omega, by omega, .inr ⟨decide_eq_true (by omega), by decide⟩⟩
    · exact ⟨n, by omega, by omega, .inl (decide_eq_false (by omega))⟩
  have HALL : Hid (tAll (qs.take m) = tAll ((qs.take m).drop 0)) := Lib.hid rfl
  obtain ⟨F, hF⟩ : ∃ F : Nat → List Int, ∀ j, F j = tAll ((qs.take m).drop j) := ⟨_, fun _ => rfl⟩
  have HF := Lib.hid hF
  clear hp hm hF
  go_enter Try.func9, Try.ntmps9
  go_wp2_with fail
  refine (HC.out _).mono ?_; rintro e w1 ⟨rfl, hb1⟩; have HB1 := Lib.hid hb1; clear hb1
  go_wp2_with fail
  go_loopw [5, 6] (fun bv iv W => ∃ j : Nat, j ≤ m ∧ iv = .int .i64 (j : Int) ∧ Aside0 (OB W w.heap.size bv (tAll (qs.take j))) ∧ Aside0 (Below w.heap.size w W)) (fun _ iv _ => m - (intOf iv).toNat)
  case atStart => exact ⟨0, by omega, rfl, ⟨own_nil _ _ _ _⟩, ⟨HB1.out⟩⟩
  case round =>
    obtain ⟨j, hj, rfl, ⟨ho⟩, ⟨hb⟩⟩ := hrel
    have HBj := Lib.hid hb
    obtain ⟨L, hL⟩ : ∃ L, L = tAll (qs.take j) := ⟨_, rfl⟩
    rw [← hL] at ho
    have hLl : L.length ≤ 210 * j := by
      rw [hL]; have := tAll_len (qs.take j); rw [List.length_take] at this; have : 210 * min j qs.length ≤ 210 * j := Nat.mul_le_mul_left _ (Nat.min_le_left _ _); omega
    have HL := Lib.hid hL
    obtain ⟨A5, c5, rfl, hc5, hr5⟩ := ho.slice
    have HO := Lib.hid ho
    have HR5 := Lib.hid hr5
    have HC5 := Lib.hid hc5
    clear hr5 hc5 ho hL hb
    by_cases hlt : j < m
    · have hc1 : decide ((j : Int) < (n : Int)) = true := decide_eq_true (by omega)
      have hc2 : decide ((j : Int) < 30) = true := decide_eq_true (by omega)
      obtain ⟨ad, rfl, z0, z1, z2⟩ := (HP.out.below HBj.out).at_ j (by omega)
      have HZ := Lib.hid (HP.out.small_at j (by omega))
      have HS := Lib.hid (tAll_step qs j (by omega))
      obtain ⟨q, hqj⟩ : ∃ q, q = qs.getD j T0 := ⟨_, rfl⟩
      rw [← hqj] at HZ HS z0 z1 z2
      rw [← HL.out] at HS
      clear hqj hcase
      go_wp2_with fail
      refine (lay_calls A5 c5 L q.1 q.2.1 q.2.2 _ HR5.out HC5.out HZ.out (by omega)).mono ?_; rintro e w3 ⟨v3, rfl, ho3, hb3⟩; have HO3 := Lib.hid ho3; have HB3 := Lib.hid (below_step HBj.out hb3); clear ho3 hb3
      go_wp2
      go_roundw
      case rel => exact ⟨j + 1, by omega, by go_num, ⟨by rw [HS.out]; exact OB.base HO3.out HBj.out.size⟩, ⟨HB3.out⟩⟩
      case measure => simp [intOf]; omega
    · have hjm : j = m := by omega
      subst j
      have hb3 : L.length + t.size ≤ 140737488355328 := by omega
      obtain ⟨X, hX⟩ : ∃ X, X = L ++ bytesOf t := ⟨_, rfl⟩
      have HX := Lib.hid hX
      have hXb : Bytes X := by rw [hX, HL.out]; exact (tAll_bytes _ fun q hq' => hsm.out q (List.mem_of_mem_take hq')).append (BS.bytes_bytesOf t)
      have HXb := Lib.hid hXb
      have hXl : X.length = L.length + t.size := by rw [hX, List.length_append, bytesOf_length]
      have hXs : X.length ≤ 140737488355328 := by omega
      have HX0 : Hid (X = F 0 ++ bytesOf t) := Lib.hid (by rw [HF.out]; rw [hX, HL.out]; rfl)
      have HFm : Hid (F m = []) := Lib.hid (by rw [HF.out, List.drop_of_length_le (by rw [List.length_take]; omega)]; rfl)
      have ET := Lib.hid (BS.beq_of (BS.str_bytesOf t))
      clear hX hXb hXl
      have HBw := Lib.hid (bytesOf_length t)
      rcases hcase with hx1 | ⟨hx1, hx2⟩
      all_goals (
        go_wp2_with (at_builtin; refine print_append_str (w0 := w) w.heap.size rfl (.tmp 28) (.tmp 29) 26 9 5 rfl Try.underlying26 Try.underlying9 infoU8 (.slice A5 L.length c5) L t rfl rfl HO.out HBj.out HBj.out.size hb3 ?_; intro v4 w4 ho4 hb4 hg4; rw [← HX.out] at ho4; obtain ⟨A6, c6, rfl, hc6, hr6⟩ := OB.slice ho4; have HR6 := Lib.hid hr6; have HC6 := Lib.hid hc6; have HB4 := Lib.hid hb4; clear ho4 hg4 hr6 hc6 hb4)
        refine (new_calls A6 c6 X _ HR6.out HC6.out HXb.out hXs).mono ?_; rintro e w5 ⟨g, rfl, hg5, hr5, hb5⟩
        have HB5 := Lib.hid (below_step HB4.out hb5)
        have HG := Lib.hid (Nat.le_trans HB4.out.size hg5)
        have HR7 := Lib.hid (HX0.out ▸ hr5)
        clear hg5 hr5 hb5
        go_wp2_with fail
        go_loopw [8] (fun iv W => ∃ j : Nat, j ≤ m ∧ iv = .int .i64 (j : Int) ∧ Aside0 (Rdr W g (F j ++ bytesOf t) false) ∧ Aside0 (Below w.heap.size w W)) (fun iv _ => m - (intOf iv).toNat)
        case atStart => exact ⟨0, by omega, rfl, ⟨HR7.out⟩, ⟨HB5.out⟩⟩
        case round =>
          obtain ⟨j, hj2, rfl, ⟨hr⟩, ⟨hb⟩⟩ := hrel
          have HBj2 := Lib.hid hb
          clear hb
          by_cases hlt2 : j < m
          · have hc1 : decide ((j : Int) < (n : Int)) = true := decide_eq_true (by omega)
            have hc2 : decide ((j : Int) < 30) = true := decide_eq_true (by omega)
            have hstep : F j = tEnc (qs.getD j T0) ++ F (j + 1) := by rw [HF.out, HF.out]; exact tAll_from qs m j hlt2 (by omega)
            obtain ⟨ad, rfl, z0, z1, z2⟩ := (HP.out.below HBj2.out).at_ j (by omega)
            have HZ := Lib.hid (HP.out.small_at j (by omega))
            obtain ⟨q, hqj⟩ : ∃ q, q = qs.getD j T0 := ⟨_, rfl⟩
            rw [← hqj] at HZ hstep z0 z1 z2
            rw [hstep, List.append_assoc] at hr
            have HRj := Lib.hid hr
            clear hqj hr hstep hx1
            go_wp2_with fail
            refine (back_good g _ q _ HRj.out HZ.out).mono ?_; rintro e w6 ⟨rfl, hr6, hg6⟩; have HR6' := Lib.hid hr6; have HB6 := Lib.hid (belowg HBj2.out hg6 HBj2.out.size HG.out); clear hr6 hg6
            go_wp2_with fail
            refine (err_calls g _ false _ HR6'.out).mono ?_; rintro e w7 ⟨rfl, ⟨n7, rfl⟩⟩
            go_wp2
            go_roundw
            case rel => exact ⟨j + 1, by omega, by go_num, ⟨HR6'.out.drewN _⟩, ⟨pw_below_drewN HB6.out _⟩⟩
            case measure => simp [intOf]; omega
          · have hjm2 : j = m := by omega
            subst j
            rw [HFm.out, List.nil_append] at hr
            have HRj := Lib.hid hr
            clear hr
            go_wp2_with fail
            have hl := left_calls g (bytesOf t) false _ HRj.out
            rw [HBw.out] at hl
            refine hl.mono ?_; clear hl; rintro e w6 ⟨rfl, ⟨n6, rfl⟩⟩
            go_wp2_with fail
            refine (take_all g t _ (HRj.out.drewN n6)).mono ?_; rintro e w7 ⟨v7, rfl, ho7, hr7, hg7⟩
            obtain ⟨A7, c7, rfl, hc7, hq7⟩ := ho7.slice
            have HR8 := Lib.hid hr7
            have HQ7 := Lib.hid (fun (W : World) (h : W = w7) => (hcv2 (c := c7) (h ▸ hq7) : (convert 26 9 (.slice A7 (bytesOf t).length c7)).run Try.prog W = .ok (.string (strOfNums (bytesOf t))) W))
            have HB7 := Lib.hid (belowg (pw_below_drewN HBj2.out n6) hg7 HBj2.out.size HG.out)
            clear hr7 ho7 hc7 hq7 hg7
            have kz := HQ7.out w7 rfl
            have eT := ET.out
            go_wp2_with fail
            refine (end_ok g _ HR8.out).mono ?_; rintro e w8 ⟨rfl, hr8, hg8⟩
            have HB8 := Lib.hid (belowg HB7.out hg8 HB7.out.size HG.out)
            clear hr8 hg8
            go_wp2_with fail
            refine (works_calls _).mono ?_; rintro e w9 ⟨rfl, hb9⟩
            have HB9 := Lib.hid (below_step HB8.out hb9)
            clear hb9
            go_wp2
            go_ret
            exact ⟨rfl, HB9.out⟩)
theorem backWalk {H : Type} {enc : TypeId × Value → H} {Q : Prop} (v : Value) (d : DataW H) (p : List MemPlace) (s : ByteArray) (w : World) {base : Nat} {held : Bool} {r : Reach} {b0 : Nat}
    (hv : Value.okWide Try.prog w r b0 51 v) (h : DataW.Trod enc Try.prog w base (fun _ => true) held 51 v d p) (hs : s.size ≤ 140737488351232) (hq : Q) :
    Calls Try.prog 9 #[v, .string s] w fun e w' => e = .returned (.bool true) ∧ Below w.heap.size w w' := by
  obtain ⟨A, n, c, qs, rfl, hn, hm, hp⟩ := open_things Try.underlying51 Try.underlying54 (by kernel_rfl) (by kernel_rfl) Try.underlying3 Try.underlying22 Try.underlying9 hv h
  exact backLaw A n c qs s w hn hm hp
end Go.Proofs.Ythgahepldlicbaa.BP
