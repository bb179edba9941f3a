/- Whatever is asked of a reader of any bytes is answered as the document says. -/
import Derived.Test.YthgahepldlicbaaRStep
import Derived.Test.YthgahepldlicbaaBAsk
import Derived.Test.YthgahepldlicbaaBStrW
import Derived.Test.YthgahepldlicbaaBWorks
import Derived.Test.YthgahepldlicbaaBCut
import Derived.Outline
namespace Go.Proofs.Ythgahepldlicbaa.BP
open Go.RowKit Go.Proofs.YthgahepldlicbaaW.PrintWords Go.Proofs.YthgahepldlicbaaW.PrintLast Go.Proofs.YthgahepldlicbaaW.PrintMore Go.Proofs.Ythgahepldlicbaa.CD Go.Proofs.Ythgahepldlicbaa.BR
set_option linter.unusedVariables false
set_option linter.unusedSimpArgs false
/-- A reader that keeps whatever becomes of one old block. -/
def Firm (w w' : World) (g : Nat) (xs : List Int) : Prop := ∀ (W : World) (k : Nat), k < w.heap.size → w'.grownBy W (some k) → Rdr W g xs false
set_option maxHeartbeats 400000 in
set_option maxRecDepth 100000 in
theorem new_firm (A : Option Addr) (c : Nat) (xs : List Int) (w : World) (hr : ReadsInt w .u8 A xs.length xs) (hc : xs.length ≤ c) (hb : Bytes xs) (hs : xs.length ≤ 140737488355328) :
    Calls Try.prog 20 #[.slice A xs.length c] w fun e w' => ∃ g, e = .returned (.pointer (some ⟨g, 0, none⟩)) ∧ w.heap.size ≤ g ∧ Firm w w' g xs ∧ Below w.heap.size w w' := by
  have Hr := Lib.hid hr
  clear hr
  go_enter Try.func20, Try.ntmps20
  go_wp2_with (at_builtin; refine print_append_row (w0 := w) w.heap.size rfl (.tmp 3) (.tmp 4) 26 5 .u8 1 rfl Try.underlying26 infoU8 (by decide) (.slice (some ⟨w.heap.size, 0, none⟩) 0 0) [] xs A xs.length c rfl rfl ?own ?reads ?below ?size ?len ?_; (case own => exact OB.empty w _ (Nat.le_refl _)); (case reads => exact Hr.out.below (below_alloc (Below.refl _ _) _)); (case below => exact below_alloc (Below.refl _ _) _); (case size => simp); (case len => simp; omega); intro v1 w1 hown hb1 hg hat; rw [List.nil_append] at hown; obtain ⟨A1, c1, rfl, hc1, hr1⟩ := OB.slice hown; have HO := Lib.hid hown; have HB := Lib.hid hb1; have HR := Lib.hid hr1; clear hown hb1 hr1 hg hat)
  go_ret
  refine ⟨w1.heap.size, rfl, HB.out.size, fun W k hk hg => ?_, below_alloc HB.out _⟩
  refine (Rdr.new HR.out hc1 hb hs).kept hg (fun e => ?_) fun ad e A c hcell h0 hA => ?_
  · have e := Option.some.inj e
    have := HB.out.size
    omega
  · rw [blk_new] at hcell
    simp only [Option.some.injEq, Obj.cells.injEq, Array.mk.injEq, List.cons.injEq, Value.slice.injEq, and_true, true_and] at hcell
    obtain ⟨rfl, rfl⟩ := hcell
    have h1 := own_base HO.out k (by rw [hA]; exact e)
    omega
/-- The bytes that are turned: a row made of a string. -/
def Turns (W : World) (B n : Nat) : Prop := ∃ (cur : Array Value) (L : Nat), W.heap[B]? = some (.cells cur 5 (L, L + 1)) ∧ n ≤ L ∧ L = cur.size ∧ ∀ j, j < n → ∃ x : Int, cur[j]? = some (.int .u8 x)
theorem Turns.at_ {W : World} {B n : Nat} (h : Turns W B n) (j : Nat) (hj : j < n) : (∃ x : Int, W.cell? ⟨B, j, none⟩ = some (.int .u8 x)) ∧ W.frozen? ⟨B, j, none⟩ = false := by
  obtain ⟨cur, L, hb, hn, hL, hc⟩ := h
  obtain ⟨x, hx⟩ := hc j hj
  refine ⟨⟨x, ?_⟩, ?_⟩
  · simp [World.cell?, hb, hx]
  · simp [World.frozen?, hb]; omega
theorem Turns.store {W : World} {B n : Nat} (h : Turns W B n) (j : Nat) (x : Int) : Turns (W.setCell ⟨B, j, none⟩ (.int .u8 x)) B n := by
  obtain ⟨cur, L, hb, hn, hL, hc⟩ := h
  refine ⟨cur.setIfInBounds j (.int .u8 x), L, ?_, hn, by simpa using hL, fun i hi => ?_⟩
  · simp [World.setCell, Array.getElem?_modify, hb]
  · by_cases e : i = j
    · subst e
      exact ⟨x, by rw [Array.getElem?_setIfInBounds_self_of_lt (by omega)]⟩
    · obtain ⟨y, hy⟩ := hc i hi
      exact ⟨y, by rw [Array.getElem?_setIfInBounds_ne (by omega)]; exact hy⟩
theorem Turns.below {W W' : World} {B n : Nat} (h : Turns W B n) (hb : Below W.heap.size W W') : Turns W' B n := by
  obtain ⟨cur, L, hbk, h2⟩ := h
  exact ⟨cur, L, (hb.block B (Array.getElem?_eq_some_iff.1 hbk).1).trans hbk, h2⟩
theorem bw_turns (W : World) (t : ByteArray) : Turns (bw W t) W.heap.size t.size := by
  refine ⟨_, _, Lib.bytesWorld_at_new W 5 t, ?_, rfl, fun j hj => ?_⟩
  · simp [Lib.bytesCells]
  · have := Lib.bytesWorld_cell W 5 t j hj
    simp [World.cell?, Lib.bytesWorld_at_new] at this
    exact ⟨_, this⟩
theorem newstr_firm (t : ByteArray) (W : World) (ht : t.size ≤ 140737488355328) :
    Calls Try.prog 20 #[.slice (some ⟨W.heap.size, 0, none⟩) t.size (grownCap W t.size 0 5)] (bw W t) fun e w' => ∃ g, e = .returned (.pointer (some ⟨g, 0, none⟩)) ∧ W.heap.size ≤ g ∧ (∀ W2, w'.grownBy W2 (some W.heap.size) → Rdr W2 g (bytesOf t) false) ∧ Turns w' W.heap.size t.size ∧ Below W.heap.size W w' := by
  have h := new_firm (some ⟨W.heap.size, 0, none⟩) (grownCap W t.size 0 5) (bytesOf t) (bw W t) (bw_reads W t (by omega)) (by rw [bytesOf_length]; exact grownCap_ge _ _ _ _) (BS.bytes_bytesOf t) (by rw [bytesOf_length]; exact ht)
  rw [bytesOf_length] at h
  refine h.mono ?_
  rintro e w' ⟨g, rfl, hg, hr, hb⟩
  exact ⟨g, rfl, Nat.le_trans (bw_below W t).size hg, fun W2 h2 => hr W2 _ (by rw [Lib.bytesWorld_size]; omega) h2, (bw_turns W t).below hb, below_step (bw_below W t) hb⟩
theorem RRd.new {w1 : World} {A1 : Option Addr} {c1 : Nat} {xs : List Int} (hr : ReadsInt w1 .u8 A1 xs.length xs) (hc : xs.length ≤ c1) (hb : Bytes xs) (hs : xs.length ≤ 140737488355328) :
    RRd (w1.alloc (.cells #[.slice A1 xs.length c1, .bool false] 60)) w1.heap.size xs false := by
  refine ⟨⟨A1, c1, blk_new _ _, hc, hr.below (below_alloc (Below.refl _ _) _), fun ad e h0 e2 => ?_⟩, hs, hb⟩
  obtain ⟨ad', e', hcell⟩ := hr.2.2 h0
  rw [e] at e'
  obtain rfl := Option.some.inj e'
  have := World.block_lt_of_cell? w1 _ (hcell 0 h0)
  rw [add_blk] at this
  omega
theorem newref (t : ByteArray) (w W : World) (g : Nat) (ht : t.size ≤ 140737488355328) (h : Rdr W g (bytesOf t) false) (hb : Below w.heap.size w W) (hg : w.heap.size ≤ g) :
    Both w ((bw W t).alloc (.cells #[.slice (some ⟨W.heap.size, 0, none⟩) t.size (grownCap W t.size 0 5), .bool false] 60)) g (bw W t).heap.size (bytesOf t, false) := by
  have h1 : (bw W t).heap.size = W.heap.size + 1 := Lib.bytesWorld_size W 5 t
  have h2 := RRd.new (c1 := grownCap W t.size 0 5) (bw_reads W t (by omega)) (by rw [bytesOf_length]; exact grownCap_ge _ _ _ _) (BS.bytes_bytesOf t) (by rw [bytesOf_length]; exact ht)
  rw [bytesOf_length] at h2
  have hbb := below_alloc (bw_below W t) (.cells #[.slice (some ⟨W.heap.size, 0, none⟩) t.size (grownCap W t.size 0 5), .bool false] 60)
  exact ⟨h.below hbb, h2, below_step hb hbb, hg, by have := hb.size; omega⟩
set_option maxHeartbeats 1000000 in
set_option maxRecDepth 100000 in
theorem readsLaw (s : ByteArray) (A : Option Addr) (n c : Nat) (xs : List (Int × Int)) (w : World) (hn : n ≤ c) (hm : c ≤ maxLen) (hp : Pairs w A n xs) :
    Calls Try.prog 7 #[.string s, .slice A n c] w fun e w' => e = .returned (.bool true) ∧ Below w.heap.size w w' := by
  have HC := Lib.hid (fun w' => cut_calls s 3000 w' (by decide))
  obtain ⟨t, ht⟩ : ∃ t, t = cutS s 3000 := ⟨_, rfl⟩
  rw [← ht] at HC
  have htl : t.size ≤ 3000 := by rw [ht]; exact cutS_le _ _
  clear ht
  have HN := Lib.hid (fun W => newstr_firm t W (by omega))
  have kb := bytes_run t
  have HP := Lib.hid hp
  have hn63 : n ≤ 9223372036854775807 := by simp [maxLen] at hm; omega
  clear hp hm
  go_enter Try.func7, Try.ntmps7
  go_wp2_with fail
  refine (HC.out _).mono ?_; rintro e w1 ⟨rfl, hb1⟩; have HB1 := Lib.hid hb1; clear hb1
  go_wp2_with fail
  refine (HN.out _).mono ?_; rintro e w2 ⟨g, rfl, hg, hr, htu, hb2⟩; have HB2 := Lib.hid (below_step HB1.out hb2); have HG := Lib.hid (Nat.le_trans HB1.out.size hg); have HR := Lib.hid hr; have HT := Lib.hid htu; clear hg hr hb2 htu
  go_wp2_with fail
  go_loopw [7] (fun iv W => ∃ j : Nat, j ≤ t.size ∧ iv = .int .i64 (j : Int) ∧ Aside0 (Turns W w1.heap.size t.size) ∧ Aside0 (w2.grownBy W (some w1.heap.size))) (fun iv _ => t.size - (intOf iv).toNat)
  case atStart => exact ⟨0, by omega, rfl, ⟨HT.out⟩, ⟨World.grownBy.refl _ _⟩⟩
  case round =>
    obtain ⟨j, hj, rfl, ⟨htu⟩, ⟨hg⟩⟩ := hrel
    have HTj := Lib.hid htu
    have HGj := Lib.hid hg
    clear htu hg
    by_cases hlt : j < t.size
    · obtain ⟨⟨x, x0⟩, f0⟩ := HTj.out.at_ j hlt
      have hlen : (j : Int) < (t.size : Int) := by omega
      go_wp2
      go_roundw
      case rel => exact ⟨j + 1, by omega, by go_num, ⟨HTj.out.store j _⟩, ⟨gset HGj.out _ _⟩⟩
      case measure => simp [intOf]; omega
    · obtain rfl : j = t.size := by omega
      obtain ⟨wo, rfl⟩ : ∃ wo : World, wo = wr := ⟨_, rfl⟩
      have HRz := Lib.hid (HR.out _ HGj.out)
      have HBz := Lib.hid (belowg HB2.out HGj.out HB2.out.size HB1.out.size)
      have HQ := Lib.hid (fun W (h : Rdr W g (bytesOf t) false) (hb : Below w.heap.size w W) => newref t w W g (by omega) h hb HG.out)
      have HBo := Lib.hid (HQ.out wo HRz.out HBz.out)
      clear hj
      go_wp2_with fail
      go_loopw [9] (fun iv W => ∃ (j : Nat) (st : St), j ≤ n ∧ iv = .int .i64 (j : Int) ∧ Aside0 (Both w W g (bw wo t).heap.size st)) (fun iv _ => n - (intOf iv).toNat)
      case atStart => exact ⟨0, _, by omega, rfl, ⟨HBo.out⟩⟩
      case round =>
        obtain ⟨j, st, hj, rfl, ⟨hbo⟩⟩ := hrel
        have HBj := Lib.hid hbo
        clear hbo
        by_cases hlt : j < n ∧ j < 60
        · obtain ⟨h1, h2⟩ := hlt
          have hc1 : decide ((j : Int) < (n : Int)) = true := decide_eq_true (by omega)
          have hc2 : decide ((j : Int) < 60) = true := decide_eq_true (by omega)
          obtain ⟨ad, rfl, hcell⟩ := (HP.out.below HBj.out.below).2.1 (by omega)
          obtain ⟨z0, z1⟩ := hcell j h1
          rw [at_field ad (j * 2) 1 (by decide)] at z1
          have HZ := Lib.hid (HP.out.2.2 j h1).2
          obtain ⟨⟨a, m⟩, hq⟩ : ∃ q, q = xs.getD j (0, 0) := ⟨_, rfl⟩
          rw [← hq] at z0 z1 HZ
          simp only at z0 z1 HZ
          clear hq hcell
          go_wp2_with fail
          refine (step_at w g (bw wo t).heap.size st a m _ HBj.out (by have := HZ.out; omega)).mono ?_; rintro e w4 ⟨st4, rfl, hb4⟩; have HB4 := Lib.hid hb4; clear hb4 z0 z1
          go_wp2_with fail
          refine (left_calls g st4.1 st4.2 _ HB4.out.one).mono ?_; rintro e w5 ⟨rfl, ⟨n5, rfl⟩⟩
          go_wp2_with fail
          refine (refleft_calls (bw wo t).heap.size st4.1 st4.2 _ (HB4.out.two.drewN n5)).mono ?_; rintro e w6 ⟨rfl, ⟨n6, rfl⟩⟩
          obtain ⟨l4, b4⟩ := st4
          cases b4
          all_goals (
            go_wp2_with fail
            refine (err_calls g l4 _ _ (HB4.out.one.drewN _)).mono ?_; rintro e w7 ⟨rfl, ⟨n7, rfl⟩⟩
            go_wp2_with fail
            refine (referr_calls (bw wo t).heap.size l4 _ _ (HB4.out.two.drewN _)).mono ?_; rintro e w8 ⟨rfl, ⟨n8, rfl⟩⟩
            go_wp2
            go_roundw
            case rel => exact ⟨j + 1, _, by omega, by go_num, ⟨HB4.out.under (pw_below_drewN (Below.refl _ _) _)⟩⟩
            case measure => simp [intOf]; omega)
        · rcases Nat.lt_or_ge j n with h1 | h1
          · have hc1 : decide ((j : Int) < (n : Int)) = true := decide_eq_true (by omega)
            have hc2 : decide ((j : Int) < 60) = false := decide_eq_false (by omega)
            go_wp2_with fail
            refine (works_calls _).mono ?_; rintro e w9 ⟨rfl, hb9⟩; have HB9 := Lib.hid (below_step HBj.out.below hb9); clear hb9
            go_wp2
            go_ret
            exact ⟨rfl, HB9.out⟩
          · have hc1 : decide ((j : Int) < (n : Int)) = false := decide_eq_false (by omega)
            go_wp2_with fail
            refine (works_calls _).mono ?_; rintro e w9 ⟨rfl, hb9⟩; have HB9 := Lib.hid (below_step HBj.out.below hb9); clear hb9
            go_wp2
            go_ret
            exact ⟨rfl, HB9.out⟩
theorem readsWalk {H : Type} {enc : TypeId × Value → H} {Q : Prop} (s : ByteArray) (v : Value) (d : DataW H) (p : List MemPlace) (w : World) (hs : s.size ≤ 140737488351232) {base : Nat} {held : Bool} {r : Reach} {b0 : Nat}
    (hv : Value.okWide Try.prog w r b0 57 v) (h : DataW.Trod enc Try.prog w base (fun _ => true) held 57 v d p) (hq : Q) :
    Calls Try.prog 7 #[.string s, v] w fun e w' => e = .returned (.bool true) ∧ Below w.heap.size w w' := by
  obtain ⟨A, n, c, xs, rfl, hn, hm, hp⟩ := open_pairs Try.underlying57 Try.underlying63 (by kernel_rfl) (by kernel_rfl) Try.underlying3 Try.underlying3 hv h
  exact readsLaw s A n c xs w hn hm hp
end Go.Proofs.Ythgahepldlicbaa.BP
