/- The state of a reader of bytes (package bytes): what it has left and whether it is broken; what one call does to it, in plain words (rNum, ..); walks of its methods. -/
import Derived.Test.YthgahepldlicbaaPBytesBackx1
import Derived.Test.YthgahepldlicbaaCodecF
import Derived.Lib.Hide
namespace Go.Proofs.Ythgahepldlicbaa.BR
open Go.RowKit Go.Proofs.YthgahepldlicbaaW.PrintWords Go.Proofs.YthgahepldlicbaaW.PrintLast Go.Proofs.YthgahepldlicbaaW.PrintMore Go.Proofs.Ythgahepldlicbaa.CD
set_option linter.unusedVariables false
set_option linter.unusedSimpArgs false

/-! ### worlds -/
theorem gset {a w : World} {b : Nat} (h : a.grownBy w (some b)) (i : Nat) (v : Value) : a.grownBy (w.setCell ⟨b, i, none⟩ v) (some b) :=
  ⟨h.os, h.tape, h.output, Nat.le_trans h.size (by simp [World.setCell]), fun k hk hne => (Below.heap_setCell w _ _ k (by intro e; exact hne (by rw [e]))).trans (h.block k hk hne)⟩
theorem gdrewN {a w : World} {row : Option Nat} (h : a.grownBy w row) (n : Nat) : a.grownBy (w.drewN n) row := ⟨h.os, h.tape, h.output, h.size, h.block⟩
theorem gdrew {a w : World} {row : Option Nat} (h : a.grownBy w row) : a.grownBy w.drew row := ⟨h.os, h.tape, h.output, h.size, h.block⟩
theorem gbelow {a w w' : World} {row : Option Nat} (h : a.grownBy w row) (hb : Below w.heap.size w w') : a.grownBy w' row :=
  ⟨hb.os.trans h.os, hb.tape.trans h.tape, hb.output.trans h.output, Nat.le_trans h.size hb.size, fun k hk hne => (hb.block k (Nat.lt_of_lt_of_le hk h.size)).trans (h.block k hk hne)⟩
theorem gtrans {a w w' : World} {row : Option Nat} (h : a.grownBy w row) (k : w.grownBy w' row) : a.grownBy w' row := World.grownBy.trans h k
theorem gofBelow {w w1 : World} {row : Option Nat} (h : Below w.heap.size w w1) : w.grownBy w1 row := grown_of_below h row
theorem belowg {B : Nat} {a w w' : World} {g : Nat} (h : Below B a w) (hg : w.grownBy w' (some g)) (hB : B ≤ w.heap.size) (hr : B ≤ g) : Below B a w' := h.grown hg hB (fun k hk => by cases hk; exact hr)

/-- The reader at block g: xs is left; is it broken? -/
structure Rdr (w : World) (g : Nat) (xs : List Int) (br : Bool) : Prop where
  cell : ∃ (A : Option Addr) (c : Nat), w.heap[g]? = some (.cells #[.slice A xs.length c, .bool true, .bool br] 49 (0, 0)) ∧ xs.length ≤ c ∧ ReadsInt w .u8 A xs.length xs ∧ (∀ ad, A = some ad → 0 < xs.length → ad.block ≠ g)
  small : xs.length ≤ 140737488355328
  bytes : Bytes xs
theorem Rdr.lt {w : World} {g : Nat} {xs : List Int} {br : Bool} (h : Rdr w g xs br) : g < w.heap.size := by
  obtain ⟨A, c, hb, _⟩ := h.cell
  exact blk_lt hb
theorem reads_kept {w w' : World} {A : Option Addr} {n : Nat} {xs : List Int} (h : ReadsInt w .u8 A n xs) (hk : ∀ ad, A = some ad → 0 < n → ad.block < w.heap.size → w'.heap[ad.block]? = w.heap[ad.block]?) : ReadsInt w' .u8 A n xs :=
  ⟨h.1, h.2.1, fun hn => by
    obtain ⟨ad, e, hc⟩ := h.2.2 hn
    refine ⟨ad, e, fun j hj => ?_⟩
    have hj' := hc j hj
    have hl := World.block_lt_of_cell? w _ hj'
    have hbk : (ad.add j).block = ad.block := by unfold Addr.add; split <;> rfl
    rw [hbk] at hl
    have e2 := hk ad e hn hl
    have : w'.cell? (ad.add j) = w.cell? (ad.add j) := by unfold World.cell?; rw [hbk, e2]
    rw [this]; exact hj'⟩
/-- Another block's turn leaves a reader. -/
theorem Rdr.kept {w w' : World} {g : Nat} {xs : List Int} {br : Bool} (h : Rdr w g xs br) {row : Option Nat} (hg : w.grownBy w' row) (hne : some g ≠ row) (hdata : ∀ ad : Addr, some ad.block = row → ∀ A c, w.heap[g]? = some (.cells #[.slice A xs.length c, .bool true, .bool br] 49 (0, 0)) → 0 < xs.length → A ≠ some ad) : Rdr w' g xs br := by
  obtain ⟨A, c, hb, hc, hr, hn⟩ := h.cell
  refine ⟨⟨A, c, (hg.block g (blk_lt hb) hne).trans hb, hc, reads_kept hr fun ad e h0 hl => hg.block _ hl (fun e2 => hdata ad e2 A c hb h0 e), hn⟩, h.small, h.bytes⟩
theorem Rdr.below {w w' : World} {g : Nat} {xs : List Int} {br : Bool} (h : Rdr w g xs br) (hb : Below w.heap.size w w') : Rdr w' g xs br :=
  h.kept (gofBelow (row := none) hb) (by simp) (fun ad e => by cases e)
theorem Rdr.drewN {w : World} {g : Nat} {xs : List Int} {br : Bool} (h : Rdr w g xs br) (n : Nat) : Rdr (w.drewN n) g xs br := h.below (pw_below_drewN (Below.refl _ _) n)
/-- It breaks. -/
theorem Rdr.breaks {w : World} {g : Nat} {xs : List Int} {br : Bool} (h : Rdr w g xs br) : Rdr (w.setCell ⟨g, 2, none⟩ (.bool true)) g xs true := by
  obtain ⟨A, c, hb, hc, hr, hn⟩ := h.cell
  refine ⟨⟨A, c, by rw [blk_set hb]; rfl, hc, reads_kept hr fun ad e h0 hl => Below.heap_setCell w _ _ _ (hn ad e h0), hn⟩, h.small, h.bytes⟩
theorem cutFrom (A : Option Addr) (xs : List Int) (c m : Nat) (hm : m ≤ xs.length) (hc : xs.length ≤ c) :
    ∃ A' : Option Addr, (∀ W : World, (Instr.slice 26 (.slice A xs.length c) (some (.int .i64 (m : Int))) none none).run Try.prog W = .ok (.slice A' (xs.length - m) (c - m)) W) ∧
      (∀ w, ReadsInt w .u8 A xs.length xs → ReadsInt w .u8 A' (xs.drop m).length (xs.drop m)) ∧ (∀ ad', A' = some ad' → ∃ ad, A = some ad ∧ ad.block = ad'.block) := by
  obtain ⟨i0, hi, hz0, hz1, hz2⟩ := info_parts (show (Try.prog.info? 5).map (fun i => (i.zero, i.size, i.bytes)) = some (some (.int .u8 0), 1, 1) by kernel_rfl)
  refine ⟨if c = m then A else A.map (·.add m), fun W => ?_, fun w h => ?_, fun ad' e => ?_⟩
  · have := cut_from (P := Try.prog) 26 5 .i64 Try.underlying26 hi 1 hz1 A xs.length c (m : Int) (by omega) (by omega) W
    simpa using this
  · have := h.drop_ m hm hc
    rw [List.length_drop]
    exact this
  · split at e
    · exact ⟨ad', e, rfl⟩
    · cases A with
      | none => simp at e
      | some ad =>
        simp only [Option.map_some, Option.some.injEq] at e
        refine ⟨ad, rfl, ?_⟩
        rw [← e]
        unfold Addr.add
        split <;> rfl
/-- It goes on behind m bytes. -/
theorem Rdr.moves {w : World} {g : Nat} {xs : List Int} {br : Bool} (h : Rdr w g xs br) {A : Option Addr} {c : Nat} (hb : w.heap[g]? = some (.cells #[.slice A xs.length c, .bool true, .bool br] 49 (0, 0))) {m : Nat} (hm : m ≤ xs.length) {A' : Option Addr}
    (hr : ∀ w, ReadsInt w .u8 A xs.length xs → ReadsInt w .u8 A' (xs.drop m).length (xs.drop m)) (ha : ∀ ad', A' = some ad' → ∃ ad, A = some ad ∧ ad.block = ad'.block) :
    Rdr (w.setCell ⟨g, 0, none⟩ (.slice A' (xs.length - m) (c - m))) g (xs.drop m) br := by
  obtain ⟨A2, c2, hb2, hc, hrd, hn⟩ := h.cell
  rw [hb2] at hb
  simp only [Option.some.injEq, Obj.cells.injEq, Array.mk.injEq, List.cons.injEq, Value.slice.injEq, and_true, true_and] at hb
  obtain ⟨rfl, rfl⟩ := hb
  have hl : (xs.drop m).length = xs.length - m := List.length_drop
  have hne : ∀ ad', A' = some ad' → 0 < (xs.drop m).length → ad'.block ≠ g := fun ad' e h0 => by
    obtain ⟨ad, e1, e2⟩ := ha ad' e
    rw [← e2]
    exact hn ad e1 (by omega)
  refine ⟨⟨A', c2 - m, by rw [blk_set hb2, hl]; rfl, by omega, reads_kept (hr w hrd) fun ad e h0 hlt => Below.heap_setCell w _ _ _ (hne ad e h0), hne⟩, by have := h.small; omega, h.bytes.drop m⟩

/-! ### what a call does -/
abbrev St := List Int × Bool
def rNum (s : St) : Nat × St := if s.2 then (0, s) else if (dec s.1).2 = 0 then (0, (s.1, true)) else ((dec s.1).1, (s.1.drop (dec s.1).2, false))

theorem fine_calls (g : Nat) (xs : List Int) (br : Bool) (w : World) (h : Rdr w g xs br) :
    Calls Try.prog 35 #[.pointer (some ⟨g, 0, none⟩)] w fun e w' => e = .returned (.bool (!br)) ∧ Drawn0 w w' := by
  obtain ⟨A, c, hb, hc, hr, hne⟩ := h.cell
  have h1 := blk_cell hb 1
  have h2 := blk_cell hb 2
  simp only [List.getElem?_toArray, List.getElem?_cons_succ, List.getElem?_cons_zero] at h1 h2
  clear hb hc hr hne h
  go_enter Try.func35, Try.ntmps35
  go_wp2
  go_ret
  exact ⟨rfl, by repeat (first | exact Drawn0.refl _ | apply Drawn0.step)⟩
theorem number_calls (A : Option Addr) (c : Nat) (xs : List Int) (w : World) (hr : ReadsInt w .u8 A xs.length xs) (hc : xs.length ≤ c) (hb : Bytes xs) (hs : xs.length ≤ 140737488355328) :
    Calls Try.prog 36 #[.slice A xs.length c] w fun e w' => e = .returned (.tuple #[.int .u64 ((dec xs).1 : Int), .int .i64 ((dec xs).2 : Int)]) ∧ Drawn0 w w' :=
  PBytesBack.bytes_number.calls _ A c xs _ _ w (Kd.C_of_reads (d := (0 : Int)) (h1 := fun _ => rfl) hr) hc (CF.number_f xs hb hs)
theorem num_broken (g : Nat) (xs : List Int) (w : World) (h : Rdr w g xs true) :
    Calls Try.prog 21 #[.pointer (some ⟨g, 0, none⟩)] w fun e w' => e = .returned (.int .u64 0) ∧ Rdr w' g xs true ∧ w.grownBy w' (some g) := by
  have H := Lib.hid h
  clear h
  go_enter Try.func21, Try.ntmps21
  go_wp2_with (go_at_call 35; refine (fine_calls g xs true _ H.out).mono ?_; rintro e w' ⟨rfl, ⟨nd, rfl⟩⟩)
  go_ret
  exact ⟨rfl, H.out.drewN _, gdrewN (World.grownBy.refl _ _) _⟩
theorem num_no (g : Nat) (xs : List Int) (w : World) (h : Rdr w g xs false) (hk : (dec xs).2 = 0) :
    Calls Try.prog 21 #[.pointer (some ⟨g, 0, none⟩)] w fun e w' => e = .returned (.int .u64 0) ∧ Rdr w' g xs true ∧ w.grownBy w' (some g) := by
  have H := Lib.hid h
  obtain ⟨A, c, hb, hc, hr, hne⟩ := h.cell
  have h0 := blk_cell hb 0
  have h2 := blk_cell hb 2
  have f2 := blk_frozen hb 2
  simp only [List.getElem?_toArray, List.getElem?_cons_succ, List.getElem?_cons_zero] at h0 h2
  have HN0 := fun w' (hd : ReadsInt w' .u8 A xs.length xs) => number_calls A c xs w' hd hc h.bytes h.small
  rw [hk] at HN0
  have HN := Lib.hid HN0
  have Hr := Lib.hid hr
  clear hb hc hr hne h hk HN0
  go_enter Try.func21, Try.ntmps21
  go_wp2_with (first | (go_at_call 35; refine (fine_calls g xs false _ H.out).mono ?_; rintro e w' ⟨rfl, ⟨nd, rfl⟩⟩) | (go_at_call 36; refine (HN.out _ (Hr.out.below (pw_below_drewN (Below.refl _ _) _))).mono ?_; rintro e w' ⟨rfl, ⟨nd2, rfl⟩⟩))
  go_ret
  exact ⟨rfl, (H.out.drewN _).breaks, gset (gdrewN (World.grownBy.refl _ _) _) _ _⟩
set_option maxRecDepth 100000 in
theorem num_ok (g : Nat) (xs : List Int) (w : World) (h : Rdr w g xs false) (m k : Nat) (hd : dec xs = (m, k)) (hk : k ≠ 0) :
    Calls Try.prog 21 #[.pointer (some ⟨g, 0, none⟩)] w fun e w' => e = .returned (.int .u64 (m : Int)) ∧ Rdr w' g (xs.drop k) false ∧ w.grownBy w' (some g) := by
  have H := Lib.hid h
  obtain ⟨A, c, hb, hc, hr, hne⟩ := h.cell
  have hkl := (dec_back xs h.bytes m k hd hk).2.2.2.1
  have h0 := blk_cell hb 0
  have f0 := blk_frozen hb 0
  simp only [List.getElem?_toArray, List.getElem?_cons_succ, List.getElem?_cons_zero] at h0
  obtain ⟨A', hcut, hrd, hA'⟩ := cutFrom A xs c k hkl hc
  have HB := Lib.hid hb
  have HM := Lib.hid hrd
  have HA := Lib.hid hA'
  have HN0 := fun w' (hd : ReadsInt w' .u8 A xs.length xs) => number_calls A c xs w' hd hc h.bytes h.small
  rw [hd] at HN0
  have HN := Lib.hid HN0
  have Hr := Lib.hid hr
  have hk0 : (((k : Nat) : Int) == 0) = false := by rw [beq_eq_false_iff_ne]; omega
  have hk1 : ((k : Nat) : Int) ≤ (xs.length : Int) := by omega
  have Hkl := Lib.hid hkl
  clear hb hc hr hne h hd hk HN0 hrd hA' hkl
  go_enter Try.func21, Try.ntmps21
  go_wp2_with (first | (go_at_call 35; refine (fine_calls g xs false _ H.out).mono ?_; rintro e w' ⟨rfl, ⟨nd, rfl⟩⟩) | (go_at_call 36; refine (HN.out _ (Hr.out.below (pw_below_drewN (Below.refl _ _) _))).mono ?_; rintro e w' ⟨rfl, ⟨nd2, rfl⟩⟩))
  go_ret
  exact ⟨rfl, (H.out.drewN _).moves (blk_drewN HB.out _) Hkl.out HM.out HA.out, gset (gdrewN (World.grownBy.refl _ _) _) _ _⟩
theorem num_calls (g : Nat) (xs : List Int) (br : Bool) (w : World) (h : Rdr w g xs br) :
    Calls Try.prog 21 #[.pointer (some ⟨g, 0, none⟩)] w fun e w' => e = .returned (.int .u64 ((rNum (xs, br)).1 : Int)) ∧ Rdr w' g (rNum (xs, br)).2.1 (rNum (xs, br)).2.2 ∧ w.grownBy w' (some g) := by
  unfold rNum
  cases br with
  | true => exact num_broken g xs w h
  | false =>
    simp only [Bool.false_eq_true, if_false]
    by_cases hk : (dec xs).2 = 0
    · rw [if_pos hk]; exact num_no g xs w h hk
    · rw [if_neg hk]; exact num_ok g xs w h _ _ rfl hk
end Go.Proofs.Ythgahepldlicbaa.BR
