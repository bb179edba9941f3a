/- The chapter's examples: the walk of the closed statement. -/
import Derived.Test.YthgahepldlicbaaCodecR
import Derived.Test.YthgahepldlicbaaBWorks
import Derived.Test.YthgahepldlicbaaBRdrText
import Derived.Lib.SlBytesConst
import Derived.Outline
namespace Go.Proofs.Ythgahepldlicbaa.BP
open Go.RowKit Go.Proofs.YthgahepldlicbaaW.PrintWords Go.Proofs.YthgahepldlicbaaW.PrintLast Go.Proofs.YthgahepldlicbaaW.PrintMore Go.Proofs.Ythgahepldlicbaa.CD Go.Proofs.Ythgahepldlicbaa.BR Go.Proofs.Ythgahepldlicbaa.CR
set_option linter.unusedVariables false
set_option linter.unusedSimpArgs false
/-- A row that a call made, and the string of it. -/
def Made (w w' : World) (v : Value) (l : List Int) : Prop := ∃ A c, v = .slice A l.length c ∧ (∀ n, (convert 26 9 (.slice A l.length c)).run Try.prog (w'.drewN n) = .ok (.string (strOfNums l)) (w'.drewN n)) ∧ Below w.heap.size w w'
theorem made_of {w w' : World} {v : Value} {l : List Int} (h : OB w' w.heap.size v l) (hb : Below w.heap.size w w') : Made w w' v l := by
  obtain ⟨A, c, rfl, hc, hr⟩ := h.slice
  exact ⟨A, c, rfl, fun n => string_of_reads (c := c) (src := 26) Try.underlying26 Try.underlying5 Try.underlying9 (hr.below (pw_below_drewN (Below.refl _ _) n)), hb⟩
theorem putK (n : Nat) (z : Int) (l : List Int) (hz : z = (n : Int)) (hl : num n = l) (hn : n < 18446744073709551616) (w : World) :
    Calls Try.prog 11 #[.slice none 0 0, .int .u64 z] w fun e w' => ∃ v, e = .returned v ∧ Made w w' v l := by
  subst hz hl
  exact (put_nil n w hn).mono fun e w' ⟨v, he, ho, hb⟩ => ⟨v, he, made_of ho hb⟩
theorem putIntK (z : Int) (l : List Int) (hl : num (zig z) = l) (hn : -9223372036854775808 ≤ z ∧ z < 9223372036854775808) (w : World) :
    Calls Try.prog 12 #[.slice none 0 0, .int .i64 z] w fun e w' => ∃ v, e = .returned v ∧ Made w w' v l := by
  subst hl
  exact (putInt_nil z w hn).mono fun e w' ⟨v, he, ho, hb⟩ => ⟨v, he, made_of ho hb⟩
theorem putTextK (A : Option Addr) (w : World) (hr : ReadsInt w .u8 A 1 [120]) :
    Calls Try.prog 13 #[.slice A 1 1, .string { data := #[97, 98] }] w fun e w' => ∃ v, e = .returned v ∧ Made w w' v [120, 2, 97, 98] := by
  have h := putText_calls A 1 [120] { data := #[97, 98] } w hr (by decide) (by decide) (by decide)
  have e : ([120] ++ (num (ByteArray.size { data := #[97, 98] }) ++ bytesOf { data := #[97, 98] }) : List Int) = [120, 2, 97, 98] := by decide +kernel
  rw [e] at h
  exact h.mono fun e w' ⟨v, he, ho, hb⟩ => ⟨v, he, made_of ho hb⟩
theorem putFixedK (n : Nat) (z wd : Int) (l : List Int) (hz : z = (n : Int)) (hl : fixW n wd = l) (w : World) :
    Calls Try.prog 14 #[.slice none 0 0, .int .u64 z, .int .i64 wd] w fun e w' => ∃ v, e = .returned v ∧ Made w w' v l := by
  subst hz hl
  have h := putFixed_calls none 0 [] n wd w ⟨rfl, by decide, fun h => absurd h (by decide)⟩ (Nat.le_refl _) (by decide)
  exact h.mono fun e w' ⟨v, he, ho, hb⟩ => ⟨v, he, made_of ho hb⟩
/-! ### readers that are none, or not made -/
theorem fine_nil (w : World) : Calls Try.prog 35 #[.pointer none] w fun e w' => e = .returned (.bool false) ∧ w = w' := by
  go_enter Try.func35, Try.ntmps35
  go_wp2
  go_ret
  exact ⟨rfl, rfl⟩
theorem num_nil (w : World) : Calls Try.prog 21 #[.pointer none] w fun e w' => e = .returned (.int .u64 0) ∧ w = w' := by
  go_enter Try.func21, Try.ntmps21
  go_wp2_with fail
  refine (fine_nil _).mono ?_; rintro e w' ⟨rfl, rfl⟩
  go_wp2
  go_ret
  exact ⟨rfl, rfl⟩
theorem err_nil (w : World) : Calls Try.prog 22 #[.pointer none] w fun e w' => e = .returned (.int .i64 1) ∧ w = w' := by
  go_enter Try.func22, Try.ntmps22
  go_wp2
  go_ret
  exact ⟨rfl, rfl⟩
theorem end_nil (w : World) : Calls Try.prog 26 #[.pointer none] w fun e w' => e = .returned (.int .i64 1) ∧ w = w' := by
  go_enter Try.func26, Try.ntmps26
  go_wp2_with fail
  refine (err_nil _).mono ?_; rintro e w' ⟨rfl, rfl⟩
  go_wp2
  go_ret
  exact ⟨rfl, rfl⟩
theorem left_nil (w : World) : Calls Try.prog 23 #[.pointer none] w fun e w' => e = .returned (.int .i64 0) ∧ w = w' := by
  go_enter Try.func23, Try.ntmps23
  go_wp2
  go_ret
  exact ⟨rfl, rfl⟩
def Unmade (w : World) (g : Nat) : Prop := w.heap[g]? = some (.cells #[.slice none 0 0, .bool false, .bool false] 49 (0, 0))
theorem err_un (g : Nat) (w : World) (h : Unmade w g) : Calls Try.prog 22 #[.pointer (some ⟨g, 0, none⟩)] w fun e w' => e = .returned (.int .i64 1) ∧ Drawn0 w w' := by
  have h1 := blk_cell h 1
  simp only [List.getElem?_toArray, List.getElem?_cons_succ, List.getElem?_cons_zero] at h1
  clear h
  go_enter Try.func22, Try.ntmps22
  go_wp2
  go_ret
  exact ⟨rfl, by repeat (first | exact Drawn0.refl _ | apply Drawn0.step)⟩
theorem fine_un (g : Nat) (w : World) (h : Unmade w g) : Calls Try.prog 35 #[.pointer (some ⟨g, 0, none⟩)] w fun e w' => e = .returned (.bool false) ∧ Drawn0 w w' := by
  have h1 := blk_cell h 1
  simp only [List.getElem?_toArray, List.getElem?_cons_succ, List.getElem?_cons_zero] at h1
  clear h
  go_enter Try.func35, Try.ntmps35
  go_wp2
  go_ret
  exact ⟨rfl, by repeat (first | exact Drawn0.refl _ | apply Drawn0.step)⟩
set_option maxRecDepth 100000 in
theorem take_un (g : Nat) (w : World) (h : Unmade w g) : Calls Try.prog 27 #[.pointer (some ⟨g, 0, none⟩), .int .i64 0] w fun e w' => e = .returned (.slice none 0 0) ∧ Drawn0 w w' := by
  have H := Lib.hid h
  clear h
  go_enter Try.func27, Try.ntmps27
  go_wp2_with fail
  refine (fine_un g _ H.out).mono ?_; rintro e w' ⟨rfl, ⟨nd, rfl⟩⟩
  go_wp2
  go_ret
  exact ⟨rfl, ⟨nd, rfl⟩⟩
/-- A row that a call made, by the string of it. -/
def MadeS (w w' : World) (v : Value) (n : Nat) (lit : List UInt8) : Prop := ∃ A c s, v = .slice A n c ∧ (s.toList != lit) = false ∧ (s.toList == lit) = true ∧ (convert 26 9 (.slice A n c)).run Try.prog w' = .ok (.string s) w' ∧ Below w.heap.size w w'
theorem mades {w w' : World} {v : Value} {l : List Int} (h : Made w w' v l) (lit : List UInt8) (hl : (strOfNums l).toList = lit) : MadeS w w' v l.length lit := by
  obtain ⟨A, c, rfl, hv, hb⟩ := h
  exact ⟨A, c, strOfNums l, rfl, by rw [hl]; simp, by rw [hl]; simp, hv 0, hb⟩
theorem str_toList (l : List Int) : (strOfNums l).toList = l.map fun n => UInt8.ofNat n.toNat := by rw [BS.toList_eq]; simp [strOfNums]
theorem k1 (w : World) : Calls Try.prog 11 #[.slice none 0 0, .int .u64 0] w fun e w' => ∃ v, e = .returned v ∧ MadeS w w' v 1 [0] := (putK 0 0 [0] rfl (by decide +kernel) (by decide) w).mono fun e w' ⟨v, he, h⟩ => ⟨v, he, mades h [0] (by rw [str_toList]; decide)⟩
theorem k2 (w : World) : Calls Try.prog 11 #[.slice none 0 0, .int .u64 127] w fun e w' => ∃ v, e = .returned v ∧ MadeS w w' v 1 [127] := (putK 127 127 [127] rfl (by decide +kernel) (by decide) w).mono fun e w' ⟨v, he, h⟩ => ⟨v, he, mades h [127] (by rw [str_toList]; decide)⟩
theorem k3 (w : World) : Calls Try.prog 11 #[.slice none 0 0, .int .u64 128] w fun e w' => ∃ v, e = .returned v ∧ MadeS w w' v 2 [128, 1] := (putK 128 128 [128, 1] rfl (by decide +kernel) (by decide) w).mono fun e w' ⟨v, he, h⟩ => ⟨v, he, mades h [128, 1] (by rw [str_toList]; decide)⟩
theorem k4 (w : World) : Calls Try.prog 11 #[.slice none 0 0, .int .u64 18446744073709551615] w fun e w' => ∃ v, e = .returned v ∧ MadeS w w' v 10 [255, 255, 255, 255, 255, 255, 255, 255, 255, 1] := (putK 18446744073709551615 18446744073709551615 [255, 255, 255, 255, 255, 255, 255, 255, 255, 1] rfl (by decide +kernel) (by decide) w).mono fun e w' ⟨v, he, h⟩ => ⟨v, he, mades h [255, 255, 255, 255, 255, 255, 255, 255, 255, 1] (by rw [str_toList]; decide)⟩
theorem k5 (w : World) : Calls Try.prog 12 #[.slice none 0 0, .int .i64 1] w fun e w' => ∃ v, e = .returned v ∧ MadeS w w' v 1 [2] := (putIntK 1 [2] (by decide +kernel) (by decide) w).mono fun e w' ⟨v, he, h⟩ => ⟨v, he, mades h [2] (by rw [str_toList]; decide)⟩
theorem k6 (w : World) : Calls Try.prog 12 #[.slice none 0 0, .int .i64 (-1)] w fun e w' => ∃ v, e = .returned v ∧ MadeS w w' v 1 [1] := (putIntK (-1) [1] (by decide +kernel) (by decide) w).mono fun e w' ⟨v, he, h⟩ => ⟨v, he, mades h [1] (by rw [str_toList]; decide)⟩
theorem k7 (w : World) : Calls Try.prog 12 #[.slice none 0 0, .int .i64 (-9223372036854775808)] w fun e w' => ∃ v, e = .returned v ∧ MadeS w w' v 10 [255, 255, 255, 255, 255, 255, 255, 255, 255, 1] := (putIntK (-9223372036854775808) [255, 255, 255, 255, 255, 255, 255, 255, 255, 1] (by decide +kernel) (by decide) w).mono fun e w' ⟨v, he, h⟩ => ⟨v, he, mades h [255, 255, 255, 255, 255, 255, 255, 255, 255, 1] (by rw [str_toList]; decide)⟩
theorem k8 (A : Option Addr) (w : World) (hr : ReadsInt w .u8 A 1 [120]) : Calls Try.prog 13 #[.slice A 1 1, .string { data := #[97, 98] }] w fun e w' => ∃ v, e = .returned v ∧ MadeS w w' v 4 [120, 2, 97, 98] := (putTextK A w hr).mono fun e w' ⟨v, he, h⟩ => ⟨v, he, mades h [120, 2, 97, 98] (by rw [str_toList]; decide)⟩
theorem k9 (w : World) : Calls Try.prog 14 #[.slice none 0 0, .int .u64 4660, .int .i64 3] w fun e w' => ∃ v, e = .returned v ∧ MadeS w w' v 3 [52, 18, 0] := (putFixedK 4660 4660 3 [52, 18, 0] rfl (by decide +kernel) w).mono fun e w' ⟨v, he, h⟩ => ⟨v, he, mades h [52, 18, 0] (by rw [str_toList]; decide)⟩
theorem k10 (w : World) : Calls Try.prog 14 #[.slice none 0 0, .int .u64 5, .int .i64 9] w fun e w' => ∃ v, e = .returned v ∧ MadeS w w' v 0 [] := (putFixedK 5 5 9 [] rfl (by decide +kernel) w).mono fun e w' ⟨v, he, h⟩ => ⟨v, he, mades h [] (by rw [str_toList]; decide)⟩
theorem xreads (w : World) (fr : Nat × Nat) : ReadsInt (w.alloc (.cells #[.int .u8 120] 5 fr)) .u8 (some ⟨w.heap.size, 0, none⟩) 1 [120] := by
  refine ⟨rfl, by decide, fun _ => ⟨_, rfl, fun j hj => ?_⟩⟩
  obtain rfl : j = 0 := by omega
  have hb := blk_new w (.cells #[.int .u8 120] 5 fr)
  have : (w.alloc (.cells #[.int .u8 120] 5 fr)).cell? ⟨w.heap.size, 0, none⟩ = some (.int .u8 120) := by unfold World.cell?; rw [hb]; rfl
  exact this
def row5 : Array Value := #[.string { data := #[128, 0] }, .string { data := #[128] }, .string { data := #[] }, .string { data := #[255, 255, 255, 255, 255, 255, 255, 255, 255, 2] }, .string { data := #[255, 255, 255, 255, 255, 255, 255, 255, 255, 129, 0] }]
def row4 : Array Value := #[.string { data := #[2, 97, 98] }, .string { data := #[2, 97, 98] }, .string { data := #[2, 97, 98] }, .string { data := #[3, 97, 98] }]
def row3 : Array Value := #[.int .i64 2, .int .i64 1, .int .i64 (-1), .int .i64 9]
theorem row5_at (j : Nat) (hj : j < 5) : ∃ t, row5[j]? = some (.string t) ∧ dec (bytesOf t) = (0, 0) ∧ t.size ≤ 100 := by
  obtain rfl | rfl | rfl | rfl | rfl : j = 0 ∨ j = 1 ∨ j = 2 ∨ j = 3 ∨ j = 4 := by omega
  · exact ⟨_, rfl, by decide +kernel, by decide⟩
  · exact ⟨_, rfl, by decide +kernel, by decide⟩
  · exact ⟨_, rfl, by decide +kernel, by decide⟩
  · exact ⟨_, rfl, by decide +kernel, by decide⟩
  · exact ⟨_, rfl, by decide +kernel, by decide⟩
theorem row4_at (j : Nat) (hj : j < 4) : ∃ t m, row4[j]? = some (.string t) ∧ row3[j]? = some (.int .i64 m) ∧ m < 100 ∧ t.size ≤ 100 ∧ (rText (bytesOf t, false) m = if j = 0 then ([97, 98], ([], false)) else ([], (bytesOf t, true))) := by
  obtain rfl | rfl | rfl | rfl : j = 0 ∨ j = 1 ∨ j = 2 ∨ j = 3 := by omega
  · exact ⟨_, _, rfl, rfl, by decide, by decide, by decide +kernel⟩
  · exact ⟨_, _, rfl, rfl, by decide, by decide, by decide +kernel⟩
  · exact ⟨_, _, rfl, rfl, by decide, by decide, by decide +kernel⟩
  · exact ⟨_, _, rfl, rfl, by decide, by decide, by decide +kernel⟩
theorem num_no5 (g : Nat) (t : ByteArray) (w : World) (hd : dec (bytesOf t) = (0, 0)) (h : Rdr w g (bytesOf t) false) :
    Calls Try.prog 21 #[.pointer (some ⟨g, 0, none⟩)] w fun e w' => e = .returned (.int .u64 0) ∧ Rdr w' g (bytesOf t) true ∧ w.grownBy w' (some g) := num_no g (bytesOf t) w h (by rw [hd])
set_option maxHeartbeats 4000000 in
set_option maxRecDepth 100000 in
theorem knownWalk (w : World) : Calls Try.prog 5 #[] w fun e w' => e = .returned (.bool true) ∧ Below w.heap.size w w' := by
  go_enter Try.func5, Try.ntmps5
  have HB0 := Lib.hid (Below.refl w.heap.size w)
  have kc := fun (w : World) (C : Array Value) (n c : Nat) => Lib.run_convert_bytes_const (P := Try.prog) w 26 5 C n c Try.underlying26 Try.underlying5
  go_wp2_with fail
  refine (k1 _).mono ?_; rintro e w1 ⟨v, rfl, A1, c1, s1, rfl, q1, p1, kv1, hb⟩; have HB1 := Lib.hid (below_step HB0.out hb); clear hb
  go_wp2_with fail
  refine (k2 _).mono ?_; rintro e w2 ⟨v, rfl, A2, c2, s2, rfl, q2, p2, kv2, hb⟩; have HB2 := Lib.hid (below_step HB1.out hb); clear hb
  go_wp2_with fail
  refine (k3 _).mono ?_; rintro e w3 ⟨v, rfl, A3, c3, s3, rfl, q3, p3, kv3, hb⟩; have HB3 := Lib.hid (below_step HB2.out hb); clear hb
  go_wp2_with fail
  refine (k4 _).mono ?_; rintro e w4 ⟨v, rfl, A4, c4, s4, rfl, q4, p4, kv4, hb⟩; have HB4 := Lib.hid (below_step HB3.out hb); clear hb
  go_wp2_with fail
  refine (k5 _).mono ?_; rintro e w5 ⟨v, rfl, A5, c5, s5, rfl, q5, p5, kv5, hb⟩; have HB5 := Lib.hid (below_step HB4.out hb); clear hb
  go_wp2_with fail
  refine (k6 _).mono ?_; rintro e w6 ⟨v, rfl, A6, c6, s6, rfl, q6, p6, kv6, hb⟩; have HB6 := Lib.hid (below_step HB5.out hb); clear hb
  go_wp2_with fail
  refine (k7 _).mono ?_; rintro e w7 ⟨v, rfl, A7, c7, s7, rfl, q7, p7, kv7, hb⟩; have HB7 := Lib.hid (below_step HB6.out hb); clear hb
  go_wp2_with fail
  refine (k8 _ _ (xreads _ _)).mono ?_; rintro e w8 ⟨v, rfl, A8, c8, s8, rfl, q8, p8, kv8, hb⟩; have HB8 := Lib.hid (below_step (below_alloc HB7.out _) hb); clear hb
  go_wp2_with fail
  refine (k9 _).mono ?_; rintro e w9 ⟨v, rfl, A9, c9, s9, rfl, q9, p9, kv9, hb⟩; have HB9 := Lib.hid (below_step HB8.out hb); clear hb
  go_wp2_with fail
  refine (k10 _).mono ?_; rintro e w10 ⟨v, rfl, A10, c10, s10, rfl, q10, p10, kv10, hb⟩; have HB10 := Lib.hid (below_step HB9.out hb); clear hb
  go_wp2_with fail
  have hblk := blk_new w10 (.cells row5 9)
  have hbel := below_step HB10.out (below_alloc (Below.refl _ _) (.cells row5 9))
  have HK := Lib.hid hblk
  have HBL := Lib.hid hbel
  clear hblk hbel kc q1 q2 q3 q4 q5 q6 q7 q8 q9 q10 p1 p2 p3 p4 p5 p6 p7 p8 p9 p10 kv1 kv2 kv3 kv4 kv5 kv6 kv7 kv8 kv9 kv10
  go_loopw [67] (fun iv W => ∃ j : Nat, j ≤ 5 ∧ iv = .int .i64 (j : Int) ∧ Aside0 (W.heap[w10.heap.size]? = some (.cells row5 9 (0, 0))) ∧ Aside0 (Below w.heap.size w W)) (fun iv _ => 5 - (intOf iv).toNat)
  case atStart => exact ⟨0, by omega, rfl, ⟨HK.out⟩, ⟨HBL.out⟩⟩
  case round =>
    obtain ⟨j, hj, rfl, ⟨hk⟩, ⟨hb⟩⟩ := hrel
    have HKj := Lib.hid hk
    have HBj := Lib.hid hb
    clear hk hb
    by_cases hlt : j < 5
    · obtain ⟨t, ht, hd, hs⟩ := row5_at j hlt
      have x0 := blk_cell HKj.out j
      rw [ht] at x0
      have HD := Lib.hid hd
      have kb := bytes_run t
      have hs2 : t.size ≤ 140737488355328 := by omega
      have HN := Lib.hid (fun W => newstr_calls t W hs2)
      clear ht hd hs hs2
      go_wp2_with fail
      refine (HN.out _).mono ?_; rintro e w11 ⟨g, rfl, hg, hr, hb2⟩; have HB2 := Lib.hid hb2; have HG := Lib.hid hg; have HR := Lib.hid hr; clear hg hr hb2
      go_wp2_with fail
      refine (num_no5 g t _ HD.out HR.out).mono ?_; rintro e w12 ⟨rfl, hr, hg⟩; have HR2 := Lib.hid hr; have HB3 := Lib.hid (belowg HB2.out hg HB2.out.size HG.out); clear hr hg
      go_wp2_with fail
      refine (err_calls g _ true _ HR2.out).mono ?_; rintro e w13 ⟨rfl, ⟨n13, rfl⟩⟩
      go_wp2
      go_roundw
      case rel => exact ⟨j + 1, by omega, by go_num, ⟨blk_below HKj.out (pw_below_drewN HB3.out _)⟩, ⟨pw_below_drewN (below_step HBj.out HB3.out) _⟩⟩
      case measure => simp [intOf]; omega
    · obtain rfl : j = 5 := by omega
      obtain ⟨wo, rfl⟩ : ∃ wo : World, wo = wr := ⟨_, rfl⟩
      go_wp2_with fail
      have hblk := blk_new wo (.cells row4 9)
      have hbel := below_step HBj.out (below_alloc (Below.refl _ _) (.cells row4 9))
      have HK4 := Lib.hid hblk
      have HBL4 := Lib.hid hbel
      clear hblk hbel
      go_loopw [85] (fun iv W => ∃ j : Nat, j ≤ 4 ∧ iv = .int .i64 (j : Int) ∧ Aside0 (W.heap[wo.heap.size]? = some (.cells row4 9 (0, 0))) ∧ Aside0 (Below w.heap.size w W)) (fun iv _ => 4 - (intOf iv).toNat)
      case atStart => exact ⟨0, by omega, rfl, ⟨HK4.out⟩, ⟨HBL4.out⟩⟩
      case round =>
        obtain ⟨j, hj2, rfl, ⟨hk⟩, ⟨hb⟩⟩ := hrel
        have HKj := Lib.hid hk
        have HBj := Lib.hid hb
        clear hk hb
        by_cases hlt : j < 4
        · obtain ⟨t, m, ht, hm, hm100, hs, hrt⟩ := row4_at j hlt
          have x0 := blk_cell HKj.out j
          rw [ht] at x0
          have HM := Lib.hid hm
          have HM1 := Lib.hid hm100
          have HRT := Lib.hid hrt
          have kb := bytes_run t
          have hs2 : t.size ≤ 140737488355328 := by omega
          have HN := Lib.hid (fun W => newstr_calls t W hs2)
          clear ht hm hm100 hs hs2 hrt
          by_cases hz : j = 0
          · have e0 : ((j : Int) == 0) = true := by rw [hz]; rfl
            have HT := Lib.hid (fun (W : World) (g : Nat) (h : Rdr W g (bytesOf t) false) => text_calls g (bytesOf t) false m W (by have := HM1.out; omega) h)
            rw [HRT.out, if_pos hz] at HT
            obtain ⟨s, hs⟩ : ∃ s, s = strOfNums [97, 98] := ⟨_, rfl⟩
            have p1 : (s.toList == ([97, 98] : List UInt8)) = true := by rw [hs, str_toList]; decide
            simp only [← hs] at HT
            clear hs hz
            go_wp2_with fail
            refine (HN.out _).mono ?_; rintro e w11 ⟨g, rfl, hg, hr, hb2⟩; have HB2 := Lib.hid hb2; have HG := Lib.hid hg; have HR := Lib.hid (hr.below (below_alloc (Below.refl _ _) (.cells row3 3))); clear hg hr hb2
            have y0 : (w11.alloc (.cells #[.int .i64 2, .int .i64 1, .int .i64 (-1), .int .i64 9] 3)).cell? ⟨w11.heap.size, j, none⟩ = some (.int .i64 m) := (blk_cell (blk_new w11 (.cells row3 3)) j).trans HM.out
            have y1 : (#[.int .i64 2, .int .i64 1, .int .i64 (-1), .int .i64 9] : Array Value)[j]? = some (.int .i64 m) := HM.out
            go_wp2_with fail
            refine (HT.out _ g HR.out).mono ?_; rintro e w12 ⟨rfl, hr, hg⟩; have HR2 := Lib.hid hr; have HB3 := Lib.hid (belowg (below_alloc HB2.out (.cells row3 3)) hg (below_alloc HB2.out _).size HG.out); clear hr hg y0 y1
            go_wp2_with fail
            refine (err_calls g _ _ _ HR2.out).mono ?_; rintro e w13 ⟨rfl, ⟨n13, rfl⟩⟩
            go_wp2
            go_roundw
            case rel =>
              (repeat apply Exists.intro)
              exact ⟨⟨j + 1, by omega, by go_num, ⟨blk_below HKj.out (pw_below_drewN HB3.out _)⟩, ⟨pw_below_drewN (below_step HBj.out HB3.out) _⟩⟩, rfl⟩
            case measure => simp [intOf]; omega
          · have e0 : ((j : Int) == 0) = false := beq_eq_false_iff_ne.mpr (by omega)
            have HT := Lib.hid (fun (W : World) (g : Nat) (h : Rdr W g (bytesOf t) false) => text_calls g (bytesOf t) false m W (by have := HM1.out; omega) h)
            rw [HRT.out, if_neg hz] at HT
            obtain ⟨s, hs⟩ : ∃ s, s = strOfNums [] := ⟨_, rfl⟩
            have p1 : (s.toList == ([97, 98] : List UInt8)) = false := by rw [hs, str_toList]; decide
            simp only [← hs] at HT
            clear hs hz
            go_wp2_with fail
            refine (HN.out _).mono ?_; rintro e w11 ⟨g, rfl, hg, hr, hb2⟩; have HB2 := Lib.hid hb2; have HG := Lib.hid hg; have HR := Lib.hid (hr.below (below_alloc (Below.refl _ _) (.cells row3 3))); clear hg hr hb2
            have y0 : (w11.alloc (.cells #[.int .i64 2, .int .i64 1, .int .i64 (-1), .int .i64 9] 3)).cell? ⟨w11.heap.size, j, none⟩ = some (.int .i64 m) := (blk_cell (blk_new w11 (.cells row3 3)) j).trans HM.out
            have y1 : (#[.int .i64 2, .int .i64 1, .int .i64 (-1), .int .i64 9] : Array Value)[j]? = some (.int .i64 m) := HM.out
            go_wp2_with fail
            refine (HT.out _ g HR.out).mono ?_; rintro e w12 ⟨rfl, hr, hg⟩; have HR2 := Lib.hid hr; have HB3 := Lib.hid (belowg (below_alloc HB2.out (.cells row3 3)) hg (below_alloc HB2.out _).size HG.out); clear hr hg y0 y1
            go_wp2_with fail
            refine (err_calls g _ _ _ HR2.out).mono ?_; rintro e w13 ⟨rfl, ⟨n13, rfl⟩⟩
            go_wp2
            go_roundw
            case rel =>
              (repeat apply Exists.intro)
              exact ⟨⟨j + 1, by omega, by go_num, ⟨blk_below HKj.out (pw_below_drewN HB3.out _)⟩, ⟨pw_below_drewN (below_step HBj.out HB3.out) _⟩⟩, rfl⟩
            case measure => simp [intOf]; omega
        · obtain rfl : j = 4 := by omega
          obtain ⟨wq, rfl⟩ : ∃ wq : World, wq = wr := ⟨_, rfl⟩
          have hr56 : ReadsInt (wq.alloc (.cells #[.int .u8 5, .int .u8 6] 5)) .u8 (some ⟨wq.heap.size, 0, none⟩) ([5, 6] : List Int).length [5, 6] := own_reads' (own_lit wq 0 5 .u8 [5, 6] (Nat.zero_le _) (by decide))
          have HN := Lib.hid (new_calls _ 2 [5, 6] _ hr56 (by decide) (Bytes.mk (by decide) (Bytes.mk (by decide) Bytes.nil)) (by decide))
          have HBq := Lib.hid (below_step HBj.out (below_alloc (Below.refl _ _) (.cells #[.int .u8 5, .int .u8 6] 5)))
          clear hr56
          go_wp2_with fail
          refine HN.out.mono ?_; rintro e w11 ⟨g, rfl, hg, hr, hb⟩; have HB1 := Lib.hid (below_step HBq.out hb); have HG := Lib.hid (Nat.le_trans HBq.out.size hg); have HR := Lib.hid hr; clear hg hr hb
          go_wp2_with fail
          refine (num_ok g [5, 6] _ HR.out 5 1 (by decide +kernel) (by decide)).mono ?_; rintro e w12 ⟨rfl, hr, hg⟩; have HR2 : Hid (Rdr w12 g [6] false) := Lib.hid hr; have HB2 := Lib.hid (belowg HB1.out hg HB1.out.size HG.out); clear hr hg
          go_wp2_with fail
          refine (end_calls g [6] false _ HR2.out).mono ?_; rintro e w13 ⟨rfl, hr, hg⟩; have HR3 : Hid (Rdr w13 g [6] true) := Lib.hid hr; have HB3 := Lib.hid (belowg HB2.out hg HB2.out.size HG.out); clear hr hg
          have eE : (rEnd ([6], false)).1 = 4 := rfl
          go_wp2_with fail
          refine (num_calls g [6] true _ HR3.out).mono ?_; rintro e w14 ⟨rfl, hr, hg⟩; have HB4 := Lib.hid (belowg HB3.out hg HB3.out.size HG.out); clear hr hg
          have eN : ((rNum ([6], true)).1 : Int) = 0 := rfl
          go_wp2_with fail
          refine (num_nil _).mono ?_; rintro e w15 ⟨rfl, rfl⟩
          go_wp2_with fail
          refine (err_nil _).mono ?_; rintro e w15 ⟨rfl, rfl⟩
          go_wp2_with fail
          refine (end_nil _).mono ?_; rintro e w15 ⟨rfl, rfl⟩
          have HU := Lib.hid (blk_new w14 (.cells #[.slice none 0 0, .bool false, .bool false] 49))
          have HB5 := Lib.hid (below_step HB4.out (below_alloc (Below.refl _ _) (.cells #[.slice none 0 0, .bool false, .bool false] 49)))
          go_wp2_with fail
          refine (left_nil _).mono ?_; rintro e w15 ⟨rfl, rfl⟩
          go_wp2_with fail
          refine (err_un _ _ HU.out).mono ?_; rintro e w15 ⟨rfl, ⟨n1, rfl⟩⟩
          go_wp2_with fail
          refine (take_un _ _ (blk_drewN HU.out _)).mono ?_; rintro e w15 ⟨rfl, ⟨n2, rfl⟩⟩
          go_wp2_with fail
          refine (works_calls _).mono ?_; rintro e w16 ⟨rfl, hb⟩; have HB6 := Lib.hid (below_step (pw_below_drewN HB5.out _) hb); clear hb
          go_wp2
          go_ret
          exact ⟨rfl, HB6.out⟩
end Go.Proofs.Ythgahepldlicbaa.BP
