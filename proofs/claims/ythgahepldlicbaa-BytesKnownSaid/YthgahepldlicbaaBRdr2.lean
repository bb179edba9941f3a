/- Further walks of package bytes' readers: NewReader, Take, Text, Fixed, Int, Left, Err, End. -/
import Derived.Test.YthgahepldlicbaaBRdr
namespace Go.Proofs.Ythgahepldlicbaa.BR
open Go.RowKit Go.Proofs.YthgahepldlicbaaW.PrintWords Go.Proofs.YthgahepldlicbaaW.PrintLast Go.Proofs.YthgahepldlicbaaW.PrintMore Go.Proofs.Ythgahepldlicbaa.CD
set_option linter.unusedVariables false
set_option linter.unusedSimpArgs false
theorem infoU8 : (Try.prog.info? 5).map (fun i => (i.zero, i.size, i.bytes)) = some (some (.int .u8 0), 1, 1) := by kernel_rfl
/-- A row of bytes of the call's own (nil let in). -/
def OB (w : World) (base : Nat) (v : Value) (l : List Int) : Prop := w.ownsRow base 5 1 v l.length (nums .u8 l)
theorem OB.of_R {w : World} {base : Nat} {ok : Nat → Prop} {v : Value} {l : List Int} (h : Kd.R (Kd.int .u8) 5 w base ok v l) : OB w base v l := Kd.own_of_R h
theorem OB.slice {w : World} {base : Nat} {v : Value} {l : List Int} (h : OB w base v l) : ∃ A c, v = .slice A l.length c ∧ l.length ≤ c ∧ ReadsInt w .u8 A l.length l := by
  obtain ⟨A, c, rfl, hr⟩ := own_reads (k := .u8) h
  exact ⟨A, c, rfl, own_le h, hr⟩
theorem OB.below {w w1 : World} {base : Nat} {v : Value} {l : List Int} (h : OB w base v l) (hb : Below w.heap.size w w1) : OB w1 base v l := pw_own_below h hb
theorem OB.reads {w : World} {base : Nat} {A : Option Addr} {c : Nat} {l : List Int} (h : OB w base (.slice A l.length c) l) : ReadsInt w .u8 A l.length l := by
  obtain ⟨A', c', he, hc, hr⟩ := h.slice
  injection he with e1 e2 e3
  subst e1
  exact hr
theorem OB.empty (W : World) (base : Nat) (hb : base ≤ W.heap.size) : OB (W.alloc (.cells #[] 5)) base (.slice (some ⟨W.heap.size, 0, none⟩) 0 0) [] := own_lit W base 5 .u8 [] hb (by simp)

theorem Rdr.new {w1 : World} {A1 : Option Addr} {c1 : Nat} {xs : List Int} (hr : ReadsInt w1 .u8 A1 xs.length xs) (hc : xs.length ≤ c1) (hb : Bytes xs) (hs : xs.length ≤ 140737488355328) :
    Rdr (w1.alloc (.cells #[.slice A1 xs.length c1, .bool true, .bool false] 49)) w1.heap.size xs false := by
  refine ⟨⟨A1, c1, blk_new _ _, hc, hr.below (below_alloc (Below.refl _ _) _), fun ad e h0 e2 => ?_⟩, hs, hb⟩
  obtain ⟨ad', e', hcell⟩ := hr.2.2 h0
  rw [e] at e'
  obtain rfl := Option.some.inj e'
  have := World.block_lt_of_cell? w1 _ (hcell 0 h0)
  have hbk : (ad.add 0).block = ad.block := by unfold Addr.add; split <;> rfl
  omega
set_option maxHeartbeats 400000 in
set_option maxRecDepth 100000 in
theorem new_calls (A : Option Addr) (c : Nat) (xs : List Int) (w : World) (hr : ReadsInt w .u8 A xs.length xs) (hc : xs.length ≤ c) (hb : Bytes xs) (hs : xs.length ≤ 140737488355328) :
    Calls Try.prog 20 #[.slice A xs.length c] w fun e w' => ∃ g, e = .returned (.pointer (some ⟨g, 0, none⟩)) ∧ w.heap.size ≤ g ∧ Rdr w' g xs false ∧ Below w.heap.size w w' := by
  have Hr := Lib.hid hr
  clear hr
  go_enter Try.func20, Try.ntmps20
  go_wp2_with (at_builtin; refine print_append_row (w0 := w) w.heap.size rfl (.tmp 3) (.tmp 4) 26 5 .u8 1 rfl Try.underlying26 infoU8 (by decide) (.slice (some ⟨w.heap.size, 0, none⟩) 0 0) [] xs A xs.length c rfl rfl ?own ?reads ?below ?size ?len ?_; (case own => exact OB.empty w _ (Nat.le_refl _)); (case reads => exact Hr.out.below (below_alloc (Below.refl _ _) _)); (case below => exact below_alloc (Below.refl _ _) _); (case size => simp); (case len => simp; omega); intro v1 w1 hown hb1 hg hat; rw [List.nil_append] at hown; obtain ⟨A1, c1, rfl, hc1, hr1⟩ := OB.slice hown; have HO := Lib.hid hown; have HB := Lib.hid hb1; have HR := Lib.hid hr1; clear hown hb1 hr1 hg hat)
  go_ret
  exact ⟨w1.heap.size, rfl, HB.out.size, Rdr.new HR.out hc1 hb hs, below_alloc HB.out _⟩
/-- A cell that the call writes to a slice: the value's own form. -/
def rTake (s : St) (n : Int) : List Int × St := if s.2 then ([], s) else if n < 0 ∨ n > (s.1.length : Int) then ([], (s.1, true)) else (s.1.take n.toNat, (s.1.drop n.toNat, false))
set_option maxRecDepth 100000 in
theorem take_broken (g : Nat) (xs : List Int) (n : Int) (w : World) (h : Rdr w g xs true) :
    Calls Try.prog 27 #[.pointer (some ⟨g, 0, none⟩), .int .i64 n] w fun e w' => ∃ v, e = .returned v ∧ OB w' w.heap.size v [] ∧ Rdr w' g xs true ∧ w.grownBy w' (some g) := by
  have H := Lib.hid h
  clear h
  go_enter Try.func27, Try.ntmps27
  go_wp2_with (go_at_call 35; refine (fine_calls g xs true _ H.out).mono ?_; rintro e w' ⟨rfl, ⟨nd, rfl⟩⟩)
  go_ret
  exact ⟨_, rfl, own_nil _ _ _ _, H.out.drewN _, gdrewN (World.grownBy.refl _ _) _⟩
set_option maxRecDepth 100000 in
theorem take_no (g : Nat) (xs : List Int) (n : Int) (w : World) (h : Rdr w g xs false) (hn : n < 0 ∨ n > (xs.length : Int)) :
    Calls Try.prog 27 #[.pointer (some ⟨g, 0, none⟩), .int .i64 n] w fun e w' => ∃ v, e = .returned v ∧ OB w' w.heap.size v [] ∧ Rdr w' g xs true ∧ w.grownBy w' (some g) := by
  have H := Lib.hid h
  obtain ⟨A, c, hb, hc, hr, hne⟩ := h.cell
  have h0 := blk_cell hb 0
  have h2 := blk_cell hb 2
  have f2 := blk_frozen hb 2
  simp only [List.getElem?_toArray, List.getElem?_cons_succ, List.getElem?_cons_zero] at h0 h2
  clear hb hc hr hne h
  by_cases h1 : n < 0
  · have hd : decide (n < 0) = true := decide_eq_true h1
    clear hn
    go_enter Try.func27, Try.ntmps27
    go_wp2_with (go_at_call 35; refine (fine_calls g xs false _ H.out).mono ?_; rintro e w' ⟨rfl, ⟨nd, rfl⟩⟩)
    go_ret
    exact ⟨_, rfl, own_nil _ _ _ _, (H.out.drewN _).breaks, gset (gdrewN (World.grownBy.refl _ _) _) _ _⟩
  · have hd : decide (n < 0) = false := decide_eq_false h1
    have hd2 : decide ((xs.length : Int) < n) = true := decide_eq_true (by omega)
    clear hn
    go_enter Try.func27, Try.ntmps27
    go_wp2_with (go_at_call 35; refine (fine_calls g xs false _ H.out).mono ?_; rintro e w' ⟨rfl, ⟨nd, rfl⟩⟩)
    go_ret
    exact ⟨_, rfl, own_nil _ _ _ _, (H.out.drewN _).breaks, gset (gdrewN (World.grownBy.refl _ _) _) _ _⟩
theorem OB.set {w1 : World} {base : Nat} {v : Value} {l : List Int} (h : OB w1 base v l) {g : Nat} (hg : g < base) (i : Nat) (u : Value) : OB (w1.setCell ⟨g, i, none⟩ u) base v l :=
  own_setCell h (fun e => by have := own_base h g e.symm; omega) u
set_option maxHeartbeats 400000 in
set_option maxRecDepth 100000 in
theorem take_ok (g : Nat) (xs : List Int) (n : Int) (w : World) (h : Rdr w g xs false) (hn0 : 0 ≤ n) (hn1 : n ≤ (xs.length : Int)) :
    Calls Try.prog 27 #[.pointer (some ⟨g, 0, none⟩), .int .i64 n] w fun e w' => ∃ v, e = .returned v ∧ OB w' w.heap.size v (xs.take n.toNat) ∧ Rdr w' g (xs.drop n.toNat) false ∧ w.grownBy w' (some g) := by
  have H := Lib.hid h
  obtain ⟨k, rfl⟩ := Int.eq_ofNat_of_zero_le hn0
  rw [Int.toNat_natCast]
  have hkl : k ≤ xs.length := by omega
  obtain ⟨A, c, hb, hc, hr, hne⟩ := h.cell
  have hg := blk_lt hb
  have h0 := blk_cell hb 0
  have f0 := blk_frozen hb 0
  simp only [List.getElem?_toArray, List.getElem?_cons_succ, List.getElem?_cons_zero] at h0
  obtain ⟨A', hcut, hrd, hA'⟩ := cutFrom A xs c k hkl hc
  have hto := cut_to (P := Try.prog) 26 5 .i64 Try.underlying26 (info_parts infoU8).choose_spec.1 A xs.length c (k : Int) (by omega) (by omega) hc
  simp only [Int.toNat_natCast] at hto
  have hrt := hr.take_ k hkl
  obtain ⟨ys, hys⟩ : ∃ ys, ys = xs.take k := ⟨_, rfl⟩
  rw [← hys] at hrt ⊢
  have hyl : ys.length ≤ 140737488355328 := by rw [hys, List.length_take]; have := h.small; omega
  have hyk : k ≤ 140737488355328 := by have := h.small; omega
  have Hb := Lib.hid hb
  have HM := Lib.hid hrd
  have HA := Lib.hid hA'
  have Hr := Lib.hid hrt
  have Hkl := Lib.hid hkl
  have h0a : ∀ (n : Nat) (o : Obj), ((w.drewN n).alloc o).cell? ⟨g, 0, none⟩ = some (.slice A xs.length c) := fun n o => pw_cell_below (below_alloc (pw_below_drewN (Below.refl _ _) _) _) h0
  have hd : decide ((k : Int) < 0) = false := decide_eq_false (by omega)
  have hd2 : decide (xs.length < k) = false := decide_eq_false (by omega)
  clear hb hc hr hne h hrd hA' hkl hn0 hn1 hrt hys
  go_enter Try.func27, Try.ntmps27
  go_wp2_with (first | (go_at_call 35; refine (fine_calls g xs false _ H.out).mono ?_; rintro e w' ⟨rfl, ⟨nd, rfl⟩⟩) | (at_builtin; refine print_append_row (w0 := w) w.heap.size rfl (.tmp 23) (.tmp 29) 26 5 .u8 1 rfl Try.underlying26 infoU8 (by decide) (.slice (some ⟨w.heap.size, 0, none⟩) 0 0) [] ys A k c rfl rfl ?own ?reads ?below ?size ?len ?_; (case own => exact OB.empty _ _ (Nat.le_refl _)); (case reads => exact Hr.out.below (below_alloc (pw_below_drewN (Below.refl _ _) _) _)); (case below => exact below_alloc (pw_below_drewN (Below.refl _ _) _) _); (case size => simp); (case len => simp; omega); intro v1 w1 hown hb1 hg1 hat; rw [List.nil_append] at hown; obtain ⟨A1, c1, rfl, hc1, hr1⟩ := OB.slice hown; have HO := Lib.hid hown; have HB := Lib.hid hb1; have h0' := (hb1.cell (p := ⟨g, 0, none⟩) hg).trans h0; have f0' := (hb1.frozen (p := ⟨g, 0, none⟩) hg).trans f0; have Hb' := Lib.hid ((hb1.block g hg).trans Hb.out); clear hown hb1 hr1 hg1 hat))
  go_ret
  exact ⟨_, rfl, OB.set HO.out hg _ _, (H.out.below HB.out).moves Hb'.out Hkl.out HM.out HA.out, gset (gofBelow HB.out) _ _⟩
theorem take_calls (g : Nat) (xs : List Int) (br : Bool) (n : Int) (w : World) (h : Rdr w g xs br) :
    Calls Try.prog 27 #[.pointer (some ⟨g, 0, none⟩), .int .i64 n] w fun e w' => ∃ v, e = .returned v ∧ OB w' w.heap.size v (rTake (xs, br) n).1 ∧ Rdr w' g (rTake (xs, br) n).2.1 (rTake (xs, br) n).2.2 ∧ w.grownBy w' (some g) := by
  unfold rTake
  cases br with
  | true => exact take_broken g xs n w h
  | false =>
    simp only [Bool.false_eq_true, if_false]
    by_cases hn : n < 0 ∨ n > (xs.length : Int)
    · rw [if_pos hn]; exact take_no g xs n w h hn
    · rw [if_neg hn]; exact take_ok g xs n w h (by omega) (by omega)

/-- Left. -/
theorem left_calls (g : Nat) (xs : List Int) (br : Bool) (w : World) (h : Rdr w g xs br) :
    Calls Try.prog 23 #[.pointer (some ⟨g, 0, none⟩)] w fun e w' => e = .returned (.int .i64 (xs.length : Int)) ∧ Drawn0 w w' := by
  obtain ⟨A, c, hb, hc, hr, hne⟩ := h.cell
  have h0 := blk_cell hb 0
  simp only [List.getElem?_toArray, List.getElem?_cons_succ, List.getElem?_cons_zero] at h0
  clear hb hc hr hne h
  go_enter Try.func23, Try.ntmps23
  go_wp2
  go_ret
  exact ⟨rfl, by repeat (first | exact Drawn0.refl _ | apply Drawn0.step)⟩
/-- Err. -/
theorem err_calls (g : Nat) (xs : List Int) (br : Bool) (w : World) (h : Rdr w g xs br) :
    Calls Try.prog 22 #[.pointer (some ⟨g, 0, none⟩)] w fun e w' => e = .returned (.int .i64 (if br then 4 else 0)) ∧ Drawn0 w w' := by
  obtain ⟨A, c, hb, hc, hr, hne⟩ := h.cell
  have h1 := blk_cell hb 1
  have h2 := blk_cell hb 2
  simp only [List.getElem?_toArray, List.getElem?_cons_succ, List.getElem?_cons_zero] at h1 h2
  clear hb hc hr hne h
  cases br
  all_goals
    go_enter Try.func22, Try.ntmps22
    go_wp2
    go_ret
    exact ⟨rfl, by repeat (first | exact Drawn0.refl _ | apply Drawn0.step)⟩
end Go.Proofs.Ythgahepldlicbaa.BR
