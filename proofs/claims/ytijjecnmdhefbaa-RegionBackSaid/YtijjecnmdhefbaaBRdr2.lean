/- Further walks of package bytes' readers: NewReader, Take, Text, Fixed, Int, Left, Err, End. -/
import Derived.Test.YtijjecnmdhefbaaBRdr
namespace Go.Proofs.Ytijjecnmdhefbaa.BR
open Go.RowKit Go.Proofs.YtijjecnmdhefbaaW.PrintWords Go.Proofs.YtijjecnmdhefbaaW.PrintLast Go.Proofs.YtijjecnmdhefbaaW.PrintMore Go.Proofs.Ytijjecnmdhefbaa.CD
set_option linter.unusedVariables false
set_option linter.unusedSimpArgs false
theorem infoU8 : (Try.prog.info? 5).map (fun i => (i.zero, i.size, i.bytes)) = some (some (.int .u8 0), 1, 1) := by kernel_rfl
/-- A row of bytes of the call's own (nil let in). -/
def OB (w : World) (base : Nat) (v : Value) (l : List Int) : Prop := w.ownsRow base 5 1 v l.length (nums .u8 l)
theorem OB.of_R {w : World} {base : Nat} {ok : Nat → Prop} {v : Value} {l : List Int} (h : Kd.R (Kd.int .u8) 5 w base ok v l) : OB w base v l := Kd.own_of_R h
theorem OB.slice {w : World} {base : Nat} {v : Value} {l : List Int} (h : OB w base v l) : ∃ A c, v = .slice A l.length c ∧ l.length ≤ c ∧ ReadsInt w .u8 A l.length l := by
  obtain ⟨A, c, rfl, hr⟩ := own_reads (k := .u8) h
  exact ⟨A, c, rfl, own_le h, hr⟩
theorem OB.below {w w1 : World} {base : Nat} {v : Value} {l : List Int} (h : OB w base v l) (hb : Below w.heap.size w w1) : OB w1 base v l := pw_own_below h hb
theorem OB.reads {w : World} {base : Nat} {A : Option Addr} {c : Nat} {l : List Int} (h : OB w base (.slice A l.length c) l) : ReadsInt w .u8 A l.length l := by
  obtain ⟨A', c', he, hc, hr⟩ := h.slice
  injection he with e1 e2 e3
  subst e1
  exact hr
theorem OB.empty (W : World) (base : Nat) (hb : base ≤ W.heap.size) : OB (W.alloc (.cells #[] 5)) base (.slice (some ⟨W.heap.size, 0, none⟩) 0 0) [] := own_lit W base 5 .u8 [] hb (by simp)

theorem Rdr.new {w1 : World} {A1 : Option Addr} {c1 : Nat} {xs : List Int} (hr : ReadsInt w1 .u8 A1 xs.length xs) (hc : xs.length ≤ c1) (hb : Bytes xs) (hs : xs.length ≤ 140737488355328) :
    Rdr (w1.alloc (.cells #[.slice A1 xs.length c1, .bool true, .bool false] 81)) w1.heap.size xs false := by
  refine ⟨⟨A1, c1, blk_new _ _, hc, hr.below (below_alloc (Below.refl _ _) _), fun ad e h0 e2 => ?_⟩, hs, hb⟩
  obtain ⟨ad', e', hcell⟩ := hr.2.2 h0
  rw [e] at e'
  obtain rfl := Option.some.inj e'
  have := World.block_lt_of_cell? w1 _ (hcell 0 h0)
  have hbk : (ad.add 0).block = ad.block := by unfold Addr.add; split <;> rfl
  omega
set_option maxHeartbeats 400000 in
set_option maxRecDepth 100000 in
theorem new_calls (A : Option Addr) (c : Nat) (xs : List Int) (w : World) (hr : ReadsInt w .u8 A xs.length xs) (hc : xs.length ≤ c) (hb : Bytes xs) (hs : xs.length ≤ 140737488355328) :
    Calls Try.prog 33 #[.slice A xs.length c] w fun e w' => ∃ g, e = .returned (.pointer (some ⟨g, 0, none⟩)) ∧ w.heap.size ≤ g ∧ Rdr w' g xs false ∧ Below w.heap.size w w' := by
  have Hr := Lib.hid hr
  clear hr
  go_enter Try.func33, Try.ntmps33
  go_wp2_with (at_builtin; refine print_append_row (w0 := w) w.heap.size rfl (.tmp 3) (.tmp 4) 34 5 .u8 1 rfl Try.underlying34 infoU8 (by decide) (.slice (some ⟨w.heap.size, 0, none⟩) 0 0) [] xs A xs.length c rfl rfl ?own ?reads ?below ?size ?len ?_; (case own => exact OB.empty w _ (Nat.le_refl _)); (case reads => exact Hr.out.below (below_alloc (Below.refl _ _) _)); (case below => exact below_alloc (Below.refl _ _) _); (case size => simp); (case len => simp; omega); intro v1 w1 hown hb1 hg hat; rw [List.nil_append] at hown; obtain ⟨A1, c1, rfl, hc1, hr1⟩ := OB.slice hown; have HO := Lib.hid hown; have HB := Lib.hid hb1; have HR := Lib.hid hr1; clear hown hb1 hr1 hg hat)
  go_ret
  exact ⟨w1.heap.size, rfl, HB.out.size, Rdr.new HR.out hc1 hb hs, below_alloc HB.out _⟩
/-- A cell that the call writes to a slice: the value's own form. -/
def rTake (s : St) (n : Int) : List Int × St := if s.2 then ([], s) else if n < 0 ∨ n > (s.1.length : Int) then ([], (s.1, true)) else (s.1.take n.toNat, (s.1.drop n.toNat, false))
theorem OB.set {w1 : World} {base : Nat} {v : Value} {l : List Int} (h : OB w1 base v l) {g : Nat} (hg : g < base) (i : Nat) (u : Value) : OB (w1.setCell ⟨g, i, none⟩ u) base v l :=
  own_setCell h (fun e => by have := own_base h g e.symm; omega) u
/-- Err. -/
theorem err_calls (g : Nat) (xs : List Int) (br : Bool) (w : World) (h : Rdr w g xs br) :
    Calls Try.prog 37 #[.pointer (some ⟨g, 0, none⟩)] w fun e w' => e = .returned (.int .i64 (if br then 4 else 0)) ∧ Drawn0 w w' := by
  obtain ⟨A, c, hb, hc, hr, hne⟩ := h.cell
  have h1 := blk_cell hb 1
  have h2 := blk_cell hb 2
  simp only [List.getElem?_toArray, List.getElem?_cons_succ, List.getElem?_cons_zero] at h1 h2
  clear hb hc hr hne h
  cases br
  all_goals
    go_enter Try.func37, Try.ntmps37
    go_wp2
    go_ret
    exact ⟨rfl, by repeat (first | exact Drawn0.refl _ | apply Drawn0.step)⟩
end Go.Proofs.Ytijjecnmdhefbaa.BR
