/- The own texts that the statement PackKnown leans on: PkGet, PkOnce, PkSame, PkShortP, PkKnownP, BAsk, PkTicks, PkKnown. -/
import Derived.Test.YtkecppgodmbmlaaAPackKnown
import Derived.Test.YtkecppgodmbmlaaAPackKnownb
import Derived.Test.YtkecppgodmbmlaaPPackBackx1
import Derived.ScopeJumps
import Derived.Deep.DeepCutAuto
import Derived.Outline
import Derived.DeepKeys
import Derived.Deep.RegionHeld3
import Derived.Deep.QuietTactic
import Derived.BigQuiet
import Derived.Deep.Slices
import Derived.Deep.Fields
import Derived.ChangeSame
import Derived.DataShut
import Derived.RowKit
namespace Go.Proofs.Ytkecppgodmbmlaa.PK
open Go.RowKit Go.Proofs.YtkecppgodmbmlaaW.PrintWords Go.Proofs.YtkecppgodmbmlaaW.PrintLast Go.Proofs.YtkecppgodmbmlaaW.PrintMore Go.Proofs.Ytkecppgodmbmlaa.CD Go.Proofs.Ytkecppgodmbmlaa.BR
attribute [local go_sem] max2_int min2_int max_two min_two max_three min_three max_four min_four
set_option linter.unusedVariables false
set_option linter.unusedSimpArgs false
def GetsC (b : List Int) (w : World) (e : Ending) (w' : World) : Prop :=
  ((e = .returned (.tuple #[.pointer none, .int .i64 4]) ∧ ∀ C L T, ¬ Pk b C L T) ∨ ∃ C L T v, e = .returned (.tuple #[.pointer (some ⟨w.heap.size, 0, none⟩), .int .i64 0]) ∧ Chunk w' w.heap.size C L v ∧ TK w' v T ∧ Pk b C L T) ∧ Below w.heap.size w w'
def Fails (b : List Int) (w : World) (a : Act) (W : World) : Prop := a.tmps.size = 171 ∧ a.defers = [] ∧ (∀ C L T, ¬ Pk b C L T) ∧ Below w.heap.size w W
theorem hr1 (b : List Int) (hb : Bytes b) (i : Nat) : 0 ≤ b.getD i 0 ∧ b.getD i 0 < 256 := by
  rw [List.getD_eq_getElem?_getD]
  cases h : b[i]? with
  | none => exact ⟨Int.le_refl _, by decide⟩
  | some x => exact hb x (List.mem_of_getElem? h)
theorem bytes_of_row (l : List Int) (h : Bytes (RU.row l)) : Bytes l := fun x hx => by
  rw [← RU.flat_runs l] at hx
  unfold RU.flat at hx
  obtain ⟨p, hp, hx⟩ := List.mem_flatMap.1 hx
  obtain ⟨_, rfl⟩ := List.mem_replicate.1 hx
  exact h _ (by unfold RU.row RU.rBytes; exact List.mem_flatMap.2 ⟨p, hp, by simp⟩)
theorem rNum_lt (X : List Int) (br : Bool) (hX : Bytes X) : (rNum (X, br)).1 < 18446744073709551616 := by
  unfold rNum
  cases br with
  | true => exact (by decide : (0 : Nat) < 18446744073709551616)
  | false =>
    simp only [Bool.false_eq_true, if_false]
    split
    · exact (by decide : (0 : Nat) < 18446744073709551616)
    · rename_i h
      exact (dec_back X hX _ _ rfl h).1
theorem w64n (n : Nat) (h : n < 9223372036854775808) : wrap64 (n : Int) = (n : Int) := by unfold wrap64; omega
theorem and15 (y : Nat) (h : y < 256) : bits .and .u8 (y : Int) 15 = (y : Int) % 16 := by
  have : ∀ y < 256, bits .and .u8 ((y : Nat) : Int) 15 = ((y : Nat) : Int) % 16 := by decide +kernel
  exact this y h
theorem half_set (f : Int → Pr) (xs : List Int) (hl : xs.length = 4096) (i : Nat) (hi : i < 4096) : ((xs.take i).map f ++ List.replicate (4096 - i) P0).set i (f (xs.getD i 0)) = (xs.take (i + 1)).map f ++ List.replicate (4096 - (i + 1)) P0 := by
  have h1 : ((xs.take i).map f).length = i := by rw [List.length_map, List.length_take]; omega
  rw [List.set_append_right _ _ (by omega), h1, Nat.sub_self, show 4096 - i = (4096 - (i + 1)) + 1 by omega, List.replicate_succ, List.set_cons_zero, List.take_add_one, List.map_append, List.append_assoc, List.getElem?_eq_getElem (by omega), List.getD_eq_getElem?_getD, List.getElem?_eq_getElem (by omega)]
  rfl
def halfC (b cs : List Int) (i : Nat) : List Pr := (cs.take i).map (palAt b) ++ List.replicate (4096 - i) P0
def halfL (ls : List Int) (i : Nat) : List Pr := (ls.take i).map lightOf ++ List.replicate (4096 - i) P0
structure Lp (w wb W : World) (b cs ls : List Int) (i : Nat) : Prop where
  below : Below w.heap.size w W
  far : ∀ k, k ≠ w.heap.size → k < wb.heap.size → W.heap[k]? = wb.heap[k]?
  ch : Chunk W w.heap.size (halfC b cs i) (halfL ls i) (.slice none 0 0)
theorem Lp.cellOf {w wb W : World} {b cs ls : List Int} {i : Nat} (h : Lp w wb W b cs ls i) {p : Addr} {v : Value} (hp : p.block ≠ w.heap.size) (hc : wb.cell? p = some v) : W.cell? p = some v := by
  have hl := World.block_lt_of_cell? wb _ hc
  rw [← hc]
  unfold World.cell?
  rw [h.far p.block hp hl]
theorem infoTick' : (Try.prog.info? 48).map (fun i => (i.zero, i.size, i.bytes)) = some (some (.agg #[.int .i64 0, .int .i64 0]), 2, 16) := by kernel_rfl
structure Tl (w W : World) (n8 rg : Nat) (b : List Int) (C L T : List Pr) (s : St) (v : Value) (many : Nat) (at_ : Int) : Prop where
  below : Below w.heap.size w W
  rdr : BQ.Rdr (fun k => n8 ≤ k ∧ k < rg) W rg s.1 s.2
  ch : Chunk W w.heap.size C L v
  tk : Kd.R kT 48 W w.heap.size (fun k => rg < k) v T
  ts : TS b T s.1 s.2 many at_
theorem Tl.under {w W W' : World} {n8 rg : Nat} {b : List Int} {C L T : List Pr} {s : St} {v : Value} {many : Nat} {at_ : Int} (h : Tl w W n8 rg b C L T s v many at_) (hb : Below W.heap.size W W') : Tl w W' n8 rg b C L T s v many at_ :=
  ⟨below_step h.below hb, h.rdr.below hb, h.ch.below hb h.ch.lt, Kd.R_below h.tk hb, h.ts⟩
theorem equal_calls (A B : Option Addr) (c d : Nat) (l m : List Int) (w : World) (hl : ReadsInt w .u8 A l.length l) (hc : l.length ≤ c) (hm : ReadsInt w .u8 B m.length m) (hd : m.length ≤ d) (hb1 : Bytes l) (hb2 : Bytes m) :
    Calls Try.prog 34 #[.slice A l.length c, .slice B m.length d] w fun e w' => e = .returned (.bool (decide (l = m))) ∧ Drawn0 w w' := by
  refine PPackBack.bytes_Equal.calls A c l B d m _ w (Kd.C_of_reads (d := (0 : Int)) (h1 := fun _ => rfl) hl) hc (Kd.C_of_reads (d := (0 : Int)) (h1 := fun _ => rfl) hm) hd ?_
  unfold PPackBack.bytes_Equal.f
  by_cases h : l = m
  · rw [h]; simp
  · rw [decide_eq_false h, BS.beq_not (fun e => h (BS.str_inj hb1 hb2 e))]
theorem pack_bytes {C L T : List Pr} (hC : U8 C) (hL : U8 L) (lC : C.length = 4096) (lL : L.length = 4096) (hm : mayB C L T = true) : Bytes (packB C L T) := by
  have hp : Pk (packB C L T) C L T := ⟨lC, lL, hC, hL, hm, rfl⟩
  have h1 := hp.pal
  rw [packB_parts]
  refine Bytes.mk ⟨by omega, by omega⟩ (Bytes.append ?_ (Bytes.append ?_ (Bytes.append ?_ (Bytes.append ?_ ?_))))
  · intro x hx
    obtain ⟨p, hp, hx⟩ := List.mem_flatMap.1 hx
    have := hC p ((codes_nodup C).2 p hp)
    simp only [List.mem_cons, List.not_mem_nil, or_false] at hx
    omega
  · refine RU.row_bytes _ (fun k hk => ?_) (by rw [codes_len, lC]; decide)
    have := (codes_mean C).2 k hk
    omega
  · refine RU.row_bytes _ (fun k hk => ?_) (by rw [List.length_map, lL]; decide)
    obtain ⟨p, hpl, rfl⟩ := List.mem_map.1 hk
    have := hp.mayL p hpl
    unfold lcode
    omega
  · exact num_bytes _ (by have := hp.few; omega)
  · have : ∀ (T : List Pr) (was : Int), -1 ≤ was → tOk was T = true → Bytes (tBytes was T) := by
      intro T
      induction T with
      | nil => exact fun _ _ _ => Bytes.nil
      | cons t r ih =>
        intro was hw h
        obtain ⟨⟨a, c⟩, ⟨d, e⟩, hr⟩ := tOk_cons h
        exact Bytes.append (num_bytes _ (by omega)) (Bytes.append (num_bytes _ (by omega)) (ih t.1 (by omega) hr))
    exact this T (-1) (by omega) (may_tick hm)
theorem own4096 {W : World} {base : Nat} {v : Value} {l : List Int} (h : OB W base v l) (hl : l.length = 4096) : ∃ g c, v = .slice (some ⟨g, 0, none⟩) 4096 c ∧ 4096 ≤ c ∧ base ≤ g ∧ g < W.heap.size ∧ ∀ j, j < 4096 → W.cell? ⟨g, j, none⟩ = some (.int .u8 (l.getD j 0)) := by
  obtain ⟨A, c, rfl, hc, _⟩ := OB.slice h
  obtain ⟨g, rfl, h1, h2⟩ := OB.form h (by rw [hl]; decide)
  refine ⟨g, c, by rw [hl], by omega, h1, h2, fun j hj => ?_⟩
  have := (OB.at_ h j (by omega)).1
  rw [rd, Int.toNat_natCast] at this
  exact this
set_option maxHeartbeats 4000000 in
set_option maxRecDepth 100000 in
theorem pget_calls (A : Option Addr) (c : Nat) (b : List Int) (w : World) (hr : ReadsInt w .u8 A b.length b) (hc : b.length ≤ c) (hb : Bytes b) (hs : b.length ≤ 140737488355328) :
    Calls Try.prog 18 #[.slice A b.length c] w (GetsC b w) := by
  have hbu := run_zero
  have hbo := run_box
  have hbd := run_build
  have HR := Lib.hid hr
  have HC := Lib.hid hc
  have HB := Lib.hid hb
  clear hr hc hb
  go_enter Try.func18, Try.ntmps18
  go_wp2
  refine wp_scope_jumps 0 (Fails b w) (fun _ _ => 0) rfl ?_ ?_
  case refine_2 =>
    rintro a w' ⟨ha, hd, hf, hbw⟩
    obtain ⟨ts, ds⟩ := a
    simp only at ha hd
    subst hd
    go_wp2
    simp only [Exit.jump]
    refine bodyPost_ret (v := .tuple #[.pointer none, .int .i64 4]) ?_ rfl ⟨.inl ⟨rfl, hf⟩, hbw⟩
    simp [results, Try.results18, go_sem, ha]
  by_cases h0 : b = []
  · have hF := Lib.hid (show ∀ C L T, ¬ Pk b C L T from fun C L T h => by
      obtain ⟨k, e, _⟩ := h.head
      rw [h0] at e
      cases e)
    subst h0
    go_wp2
    clear hbu hbo hbd
    go_step3
    exact ⟨rfl, rfl, rfl, hF.out, below_alloc (Below.refl _ _) _⟩
  · obtain ⟨k, hk⟩ : ∃ k : Nat, b.getD 0 0 = (k : Int) := by
      have h1 := hr1 b HB.out 0
      exact ⟨(b.getD 0 0).toNat, by omega⟩
    have hk8 : k < 256 := by
      have h1 := hr1 b HB.out 0
      omega
    have hlen : 0 < b.length := List.length_pos_iff.2 h0
    have HK := Lib.hid hk
    obtain ⟨ad, rfl, hcell⟩ := HR.out.2.2 hlen
    have hc0 := hcell 0 hlen
    rw [hk, Addr.add_zero'] at hc0
    have HQ0 := Lib.hid (fun W (h : Below w.heap.size w W) => Lib.Below.cellOf h hc0 (Nat.le_refl _))
    have HCELL := Lib.hid hcell
    have q0 := HQ0.out _ (below_alloc (Below.refl _ w) (.cells zero 46))
    have d0 := decide_eq_true (show (0 : Int) < (b.length : Int) by omega)
    have i0 : (0 : Int) < (b.length : Int) := by omega
    clear hc0 hcell h0 hk
    by_cases hk0 : k = 0
    · have hF := Lib.hid (show ∀ C L T, ¬ Pk b C L T from fun C L T h => by
        have := h.drop k HK.out
        omega)
      rw [hk0, Int.natCast_zero] at q0
      clear hk0 hk8
      go_wp2
      clear hbu hbo hbd
      go_step3
      exact ⟨rfl, rfl, rfl, hF.out, below_alloc (Below.refl _ _) _⟩
    · have e1 : ((k : Int) == 0) = false := by rw [beq_eq_false_iff_ne]; omega
      have e2 : decide ((k : Int) = 0) = false := decide_eq_false (by omega)
      have hk1 : 1 ≤ k := by omega
      clear hk0
      by_cases hk2 : b.length < 1 + 2 * k
      · have hF := Lib.hid (show ∀ C L T, ¬ Pk b C L T from fun C L T h => by
          have := h.drop k HK.out
          omega)
        have d1 := decide_eq_true (show (b.length : Int) < 1 + 2 * (k : Int) by omega)
        go_wp2
        clear hbu hbo hbd
        go_step3
        exact ⟨rfl, rfl, rfl, hF.out, below_alloc (Below.refl _ _) _⟩
      · have d1 := decide_eq_false (show ¬ (b.length : Int) < 1 + 2 * (k : Int) by omega)
        have hk3 : 1 + 2 * k ≤ b.length := by omega
        obtain ⟨at1, hat1⟩ : ∃ at1 : Nat, at1 = 1 + 2 * k := ⟨_, rfl⟩
        obtain ⟨A1, hcut1, hrd1, hA1⟩ := cutFrom (some ad) b c at1 (by omega) HC.out
        have hl1 : (b.drop at1).length = b.length - at1 := List.length_drop
        have hge := Lib.hid (fun W (h : Below w.heap.size w W) => (show Calls Try.prog 30 #[.slice A1 (b.length - at1) (c - at1), .int .i64 4096] W (RU.Gets (RU.getG 4097 4096 (b.drop at1) []) (b.length - at1) W) from by
          have := RU.rget_calls A1 (c - at1) 4096 (b.drop at1) W (hrd1 W (HR.out.below h)) (by rw [List.length_drop]; have := HC.out; omega) (HB.out.drop _) (by rw [List.length_drop]; omega) (by decide)
          rw [hl1] at this
          exact this))
        have w1 : IntKind.i64.wrap (1 + 2 * (k : Int)) = (at1 : Int) := by rw [i64_w]; unfold wrap64; omega
        have hw1 := Lib.hid w1
        have HAT1 := Lib.hid hat1
        have z1 : (1 : Int) + 2 * (k : Int) = (at1 : Int) := by omega
        have hat1l : at1 ≤ b.length := by omega
        clear hrd1 hA1 hl1 hat1 w1 hk2 hk3
        go_wp2_with fail
        refine (hge.out _ (below_alloc (Below.refl _ _) _)).mono ?_; rintro e wa ⟨hea, hba⟩
        have HBA := Lib.hid (below_step (below_alloc (Below.refl _ w) _) hba)
        have HCH := Lib.hid ((chunk_new w).below hba (chunk_new w).lt)
        rw [World.size_alloc] at hea
        clear hba hge hcut1 q0
        cases hG1 : RU.getG 4097 4096 (b.drop at1) [] with
        | none =>
          rw [hG1] at hea
          simp only at hea
          have hF := Lib.hid (show ∀ C L T, ¬ Pk b C L T from fun C L T h => by
            have h1 := h.drop k HK.out
            rw [← HAT1.out] at h1
            rw [h1.2.2.2.2, h.get1] at hG1
            cases hG1)
          subst hea
          clear hG1
          go_wp2
          clear hbu hbo hbd
          go_step3
          exact ⟨rfl, rfl, rfl, hF.out, HBA.out⟩
        | some q =>
          obtain ⟨cs, r1⟩ := q
          rw [hG1] at hea
          obtain ⟨v5, he5, ho5⟩ := hea
          subst he5
          obtain ⟨hcl, hdr⟩ := RU.getG_one 4096 (b.drop at1) cs r1 (HB.out.drop _) hG1
          have HP1 := Lib.hid (show ∀ C L T, Pk b C L T → cs = (codes C).2 ∧ r1 = tailL L T ∧ k = (codes C).1.length from fun C L T h => by
            have h1 := h.drop k HK.out
            rw [← HAT1.out] at h1
            rw [h1.2.2.2.2, h.get1] at hG1
            injection hG1 with hG1
            injection hG1 with e1 e2
            exact ⟨e1.symm, e2.symm, h1.2.2.2.1⟩)
          have hl := congrArg List.length hdr
          rw [List.length_drop, List.length_append] at hl
          obtain ⟨at2, hat2⟩ : ∃ at2 : Nat, at2 = b.length - r1.length := ⟨_, rfl⟩
          have hd2 : b.drop at2 = r1 := by
            have := congrArg (List.drop (RU.row cs).length) hdr
            rw [List.drop_drop, List.drop_left] at this
            rw [← this]
            congr 1
            omega
          have hr1l : r1.length = b.length - at2 := by omega
          have hat2l : at2 ≤ b.length := by omega
          obtain ⟨u1, hu1⟩ : ∃ u1 : Nat, at1 + u1 = at2 := ⟨at2 - at1, by omega⟩
          have eu1 : ((b.length - at1 : Nat) : Int) - (r1.length : Int) = (u1 : Int) := by omega
          rw [eu1]
          obtain ⟨g5, c5, rfl, hc5, hg5, hg5l, hq5⟩ := own4096 ho5 hcl
          have HQ5 := Lib.hid (fun W (h : Below wa.heap.size wa W) j (hj : j < 4096) => Lib.Below.cellOf h (hq5 j hj) (Nat.le_refl _))
          have HCL := Lib.hid hcl
          have HCB := Lib.hid (show Bytes cs from bytes_of_row cs (Bytes.left (by rw [← hdr]; exact HB.out.drop _)))
          have hrs := hd2
          obtain ⟨A2, hcut2, hrd2, hA2⟩ := cutFrom (some ad) b c at2 hat2l HC.out
          have hge := Lib.hid (fun W (h : Below w.heap.size w W) => (show Calls Try.prog 30 #[.slice A2 (b.length - at2) (c - at2), .int .i64 4096] W (RU.Gets (RU.getG 4097 4096 r1 []) (b.length - at2) W) from by
            have := RU.rget_calls A2 (c - at2) 4096 (b.drop at2) W (hrd2 W (HR.out.below h)) (by rw [List.length_drop]; have := HC.out; omega) (HB.out.drop _) (by rw [List.length_drop]; omega) (by decide)
            rw [hd2, hr1l] at this
            exact this))
          have z2 : (at1 : Int) + (u1 : Int) = (at2 : Int) := by omega
          have HR1 := Lib.hid hr1l
          have HU1 := Lib.hid hu1
          have HD2 := Lib.hid hd2
          clear hrd2 hA2 hat2 hd2 hrs hr1l hu1 hl hdr hq5 ho5 hG1 eu1 hcl hw1
          go_wp2_with fail
          refine (hge.out _ HBA.out).mono ?_; rintro e wb ⟨heb, hbb⟩
          have HBB := Lib.hid (below_step HBA.out hbb)
          have HCHb := Lib.hid (HCH.out.below hbb HCH.out.lt)
          have HQ5b := Lib.hid (fun j hj => HQ5.out wb hbb j hj)
          have hwab := hbb.size
          clear hbb hge hcut2 HCH HQ5
          cases hG2 : RU.getG 4097 4096 r1 [] with
          | none =>
            rw [hG2] at heb
            simp only at heb
            have hF := Lib.hid (show ∀ C L T, ¬ Pk b C L T from fun C L T h => by
              have h1 := HP1.out C L T h
              rw [h1.2.1, h.get2] at hG2
              cases hG2)
            subst heb
            clear hG2
            go_wp2
            clear hbu hbo hbd
            go_step3
            exact ⟨rfl, rfl, rfl, hF.out, HBB.out⟩
          | some q =>
            obtain ⟨ls, r2⟩ := q
            rw [hG2] at heb
            obtain ⟨v6, he6, ho6⟩ := heb
            subst he6
            have hr1b : Bytes r1 := by rw [← HD2.out]; exact HB.out.drop _
            obtain ⟨hll, hdr⟩ := RU.getG_one 4096 r1 ls r2 hr1b hG2
            have HP2 := Lib.hid (show ∀ C L T, Pk b C L T → (cs = (codes C).2 ∧ ls = L.map lcode ∧ r2 = tailT T) ∧ k = (codes C).1.length from fun C L T h => by
              have h1 := HP1.out C L T h
              rw [h1.2.1, h.get2] at hG2
              injection hG2 with hG2
              injection hG2 with e1 e2
              exact ⟨⟨h1.1, e1.symm, e2.symm⟩, h1.2.2⟩)
            have hl := congrArg List.length hdr
            rw [HR1.out, List.length_append] at hl
            obtain ⟨at3, hat3⟩ : ∃ at3 : Nat, at3 = b.length - r2.length := ⟨_, rfl⟩
            have hd3 : b.drop at3 = r2 := by
              have := congrArg (List.drop (RU.row ls).length) hdr
              rw [← HD2.out, List.drop_drop, List.drop_left] at this
              rw [← this]
              congr 1
              omega
            have hr2l : r2.length = b.length - at3 := by omega
            have hat3l : at3 ≤ b.length := by omega
            obtain ⟨u2, hu2⟩ : ∃ u2 : Nat, at2 + u2 = at3 := ⟨at3 - at2, by omega⟩
            have eu2 : ((b.length - at2 : Nat) : Int) - (r2.length : Int) = (u2 : Int) := by omega
            rw [eu2]
            obtain ⟨g6, c6, rfl, hc6, hg6, hg6l, hq6⟩ := own4096 ho6 hll
            have HQ6b := Lib.hid hq6
            have HLL := Lib.hid hll
            have HLB := Lib.hid (show Bytes ls from bytes_of_row ls (Bytes.left (by rw [← hdr]; exact hr1b)))
            have z3 : (at2 : Int) + (u2 : Int) = (at3 : Int) := by omega
            have HR2 := Lib.hid hr2l
            have HD3 := Lib.hid hd3
            have hg6n : w.heap.size < g6 := by have := HBA.out.size; have := HCHb.out.lt; omega
            clear hat3 hd3 hr2l hl hdr hq6 ho6 hG2 eu2 hll hr1b HP1 hu2 hbu hbo hbd
            go_wp2
            go_loopw [65] (fun iv W => ∃ i : Nat, i ≤ 4096 ∧ iv = .int .i64 (i : Int) ∧ Aside0 (Lp w wb W b cs ls i)) (fun iv _ => 4096 - (intOf iv).toNat)
            case atStart => exact ⟨0, by omega, rfl, ⟨⟨HBB.out, fun _ _ _ => rfl, HCHb.out⟩⟩⟩
            case round =>
              obtain ⟨i, hi, rfl, ⟨hlp⟩⟩ := hrel
              have HLP := Lib.hid hlp
              clear hlp
              by_cases hlt : i < 4096
              · have hd := decide_eq_true (show (i : Int) < 4096 by omega)
                have p1 : (0 ≤ (i : Int)) = True := eq_true (by omega)
                have p2 : ((i : Int) < 4096) = True := eq_true (by omega)
                obtain ⟨x, hx⟩ : ∃ x : Nat, cs.getD i 0 = (x : Int) := ⟨(cs.getD i 0).toNat, by have := hr1 cs HCB.out i; omega⟩
                have hx8 : x < 256 := by have := hr1 cs HCB.out i; omega
                have HX := Lib.hid hx
                have c5i := HLP.out.cellOf (p := ⟨g5, i, none⟩) (show g5 ≠ w.heap.size by omega) (HQ5b.out i hlt)
                rw [hx] at c5i
                clear hx
                by_cases hxk : x < k
                · have d5 := decide_eq_false (show ¬ (k : Int) ≤ (x : Int) by omega)
                  have hxb : 2 + 2 * x < b.length := by have := HAT1.out; omega
                  obtain ⟨x1, hx1⟩ : ∃ x1 : Nat, x1 = 1 + 2 * x := ⟨_, rfl⟩
                  obtain ⟨x2, hx2⟩ : ∃ x2 : Nat, x2 = 2 + 2 * x := ⟨_, rfl⟩
                  have s1 := Lib.Below.cellOf HLP.out.below (HCELL.out x1 (by omega)) (Nat.le_refl _)
                  have s2 := Lib.Below.cellOf HLP.out.below (HCELL.out x2 (by omega)) (Nat.le_refl _)
                  obtain ⟨b1, hb1⟩ : ∃ b1, b.getD x1 0 = b1 := ⟨_, rfl⟩
                  obtain ⟨b2, hb2⟩ : ∃ b2, b.getD x2 0 = b2 := ⟨_, rfl⟩
                  rw [hb1] at s1
                  rw [hb2] at s2
                  have HPA := Lib.hid (show palAt b (cs.getD i 0) = (b1, b2) by
                    rw [HX.out]
                    unfold palAt
                    rw [Int.toNat_natCast, ← hx1, ← hx2, hb1, hb2])
                  have f1 : IntKind.i64.wrap (2 * (x : Int)) = 2 * (x : Int) := by rw [i64_w]; unfold wrap64; omega
                  have f2 : IntKind.i64.wrap (1 + 2 * (x : Int)) = (x1 : Int) := by rw [i64_w]; unfold wrap64; omega
                  have f3 : IntKind.i64.wrap (2 + 2 * (x : Int)) = (x2 : Int) := by rw [i64_w]; unfold wrap64; omega
                  have f4 : (1 : Int) + 2 * (x : Int) = (x1 : Int) := by omega
                  have f5 : (2 : Int) + 2 * (x : Int) = (x2 : Int) := by omega
                  have p3 : (0 ≤ (x1 : Int)) = True := eq_true (by omega)
                  have p4 : ((x1 : Int) < (b.length : Int)) = True := eq_true (by omega)
                  have p5 : (0 ≤ (x2 : Int)) = True := eq_true (by omega)
                  have p6 : ((x2 : Int) < (b.length : Int)) = True := eq_true (by omega)
                  obtain ⟨c0, c1⟩ := HLP.out.ch.atC i hlt
                  have cf0 := HLP.out.ch.frz (i * 2)
                  have cf1 := HLP.out.ch.frz (i * 2 + 1)
                  have F1 := Lib.hid (HLP.out.ch.setC i hlt (b1, b2))
                  have f6 : wrap64 (x1 : Int) = (x1 : Int) := w64n _ (by omega)
                  have f7 : wrap64 (x2 : Int) = (x2 : Int) := w64n _ (by omega)
                  clear hb1 hb2 hx1 hx2 hxb
                  go_wp2_with fail
                  refine start_ (n := 19) (S := fun w' => w'.cell? (ad.add x1) = some (.int .u8 b1) ∧ w'.cell? (ad.add x2) = some (.int .u8 b2)) (ds := [18]) #[false, false, false, false, false, false, false, false, false, false, false, false, false, false, false, false, false, false, false] (by kernel_rfl) rfl rfl ⟨s1, s2⟩ (fun hHeld => ?_)
                  refine pure_ (i := 0) (N := some 76) (v := ?_) (a' := ?_) #[true, false, false, false, false, false, false, false, false, false, false, false, false, false, false, false, false, false, false] rfl rfl (by kernel_rfl) (fun _ _ _ h => h) (Or.inl ⟨by rfl, ?_⟩) ?_ ?_
                  rotate_left
                  · intro w'
                    go_simp
                    with_reducible rfl
                  rotate_left
                  · simp only [Act.put, List.setIfInBounds_toArray, List.set_cons_zero, List.set_cons_succ, i64_w, i32_w]
                    rfl
                  refine pure_ (i := 1) (N := some 77) (v := ?_) (a' := ?_) #[true, true, false, false, false, false, false, false, false, false, false, false, false, false, false, false, false, false, false] rfl rfl (by kernel_rfl) (fun _ _ _ h => h) (Or.inl ⟨by rfl, ?_⟩) ?_ ?_
                  rotate_left
                  · intro w'
                    go_simp
                    with_reducible rfl
                  rotate_left
                  · simp only [Act.put, List.setIfInBounds_toArray, List.set_cons_zero, List.set_cons_succ, i64_w, i32_w]
                    rfl
                  refine pure_ (i := 2) (N := some 78) (v := ?_) (a' := ?_) #[true, true, true, false, false, false, false, false, false, false, false, false, false, false, false, false, false, false, false] rfl rfl (by kernel_rfl) (fun _ _ _ h => h) (Or.inl ⟨by rfl, ?_⟩) ?_ ?_
                  rotate_left
                  · intro w'
                    go_simp
                    with_reducible rfl
                  rotate_left
                  · simp only [Act.put, List.setIfInBounds_toArray, List.set_cons_zero, List.set_cons_succ, i64_w, i32_w]
                    rfl
                  refine pure_ (i := 3) (N := some 79) (v := ?_) (a' := ?_) #[true, true, true, true, false, false, false, false, false, false, false, false, false, false, false, false, false, false, false] rfl rfl (by kernel_rfl) (fun _ _ _ h => h) (Or.inl ⟨by rfl, ?_⟩) ?_ ?_
                  rotate_left
                  · intro w'
                    go_simp
                    with_reducible rfl
                  rotate_left
                  · simp only [Act.put, List.setIfInBounds_toArray, List.set_cons_zero, List.set_cons_succ, i64_w, i32_w]
                    rfl
                  refine pure_ (i := 4) (N := some 80) (v := ?_) (a' := ?_) #[true, true, true, true, true, false, false, false, false, false, false, false, false, false, false, false, false, false, false] rfl rfl (by kernel_rfl) (fun _ _ _ h => h) (Or.inl ⟨by rfl, ?_⟩) ?_ ?_
                  rotate_left
                  · intro w'
                    go_simp
                    with_reducible rfl
                  rotate_left
                  · simp only [Act.put, List.setIfInBounds_toArray, List.set_cons_zero, List.set_cons_succ, i64_w, i32_w]
                    rfl
                  refine pure_ (i := 5) (N := some 81) (v := ?_) (a' := ?_) #[true, true, true, true, true, true, false, false, false, false, false, false, false, false, false, false, false, false, false] rfl rfl (by kernel_rfl) (fun _ _ _ h => h) (Or.inl ⟨by rfl, ?_⟩) ?_ ?_
                  rotate_left
                  · intro w'
                    go_simp
                    with_reducible rfl
                  rotate_left
                  · simp only [Act.put, List.setIfInBounds_toArray, List.set_cons_zero, List.set_cons_succ, i64_w, i32_w]
                    rfl
                  refine pure_ (i := 6) (N := some 82) (v := ?_) (a' := ?_) #[true, true, true, true, true, true, true, false, false, false, false, false, false, false, false, false, false, false, false] rfl rfl (by kernel_rfl) (fun _ _ _ h => h) (Or.inl ⟨by rfl, ?_⟩) ?_ ?_
                  rotate_left
                  · intro w'
                    go_simp
                    with_reducible rfl
                  rotate_left
                  · simp only [Act.put, List.setIfInBounds_toArray, List.set_cons_zero, List.set_cons_succ, i64_w, i32_w]
                    rfl
                  refine pure_ (i := 8) (N := some 84) (v := ?_) (a' := ?_) #[true, true, true, true, true, true, true, false, true, false, false, false, false, false, false, false, false, false, false] rfl rfl (by kernel_rfl) (fun _ _ _ h => h) (Or.inl ⟨by rfl, ?_⟩) ?_ ?_
                  rotate_left
                  · intro w'
                    go_simp
                    with_reducible rfl
                  rotate_left
                  · simp only [Act.put, List.setIfInBounds_toArray, List.set_cons_zero, List.set_cons_succ, i64_w, i32_w]
                    rfl
                  refine pure_ (i := 9) (N := some 85) (v := ?_) (a' := ?_) #[true, true, true, true, true, true, true, false, true, true, false, false, false, false, false, false, false, false, false] rfl rfl (by kernel_rfl) (fun _ _ _ h => h) (Or.inl ⟨by rfl, ?_⟩) ?_ ?_
                  rotate_left
                  · intro w'
                    go_simp
                    with_reducible rfl
                  rotate_left
                  · simp only [Act.put, List.setIfInBounds_toArray, List.set_cons_zero, List.set_cons_succ, i64_w, i32_w]
                    rfl
                  refine pure_ (i := 10) (N := some 86) (v := ?_) (a' := ?_) #[true, true, true, true, true, true, true, false, true, true, true, false, false, false, false, false, false, false, false] rfl rfl (by kernel_rfl) (fun _ _ _ h => h) (Or.inl ⟨by rfl, ?_⟩) ?_ ?_
                  rotate_left
                  · intro w'
                    go_simp
                    with_reducible rfl
                  rotate_left
                  · simp only [Act.put, List.setIfInBounds_toArray, List.set_cons_zero, List.set_cons_succ, i64_w, i32_w]
                    rfl
                  refine pure_ (i := 11) (N := some 87) (v := ?_) (a' := ?_) #[true, true, true, true, true, true, true, false, true, true, true, true, false, false, false, false, false, false, false] rfl rfl (by kernel_rfl) (fun _ _ _ h => h) (Or.inl ⟨by rfl, ?_⟩) ?_ ?_
                  rotate_left
                  · intro w'
                    go_simp
                    with_reducible rfl
                  rotate_left
                  · simp only [Act.put, List.setIfInBounds_toArray, List.set_cons_zero, List.set_cons_succ, i64_w, i32_w]
                    rfl
                  refine pure_ (i := 12) (N := some 88) (v := ?_) (a' := ?_) #[true, true, true, true, true, true, true, false, true, true, true, true, true, false, false, false, false, false, false] rfl rfl (by kernel_rfl) (fun _ _ _ h => h) (Or.inl ⟨by rfl, ?_⟩) ?_ ?_
                  rotate_left
                  · intro w'
                    go_simp
                    with_reducible rfl
                  rotate_left
                  · simp only [Act.put, List.setIfInBounds_toArray, List.set_cons_zero, List.set_cons_succ, i64_w, i32_w]
                    rfl
                  refine pure_ (i := 15) (N := some 91) (v := ?_) (a' := ?_) #[true, true, true, true, true, true, true, false, true, true, true, true, true, false, false, true, false, false, false] rfl rfl (by kernel_rfl) (fun _ _ _ h => h) (Or.inl ⟨by rfl, ?_⟩) ?_ ?_
                  rotate_left
                  · intro w'
                    go_simp
                    with_reducible rfl
                  rotate_left
                  · simp only [Act.put, List.setIfInBounds_toArray, List.set_cons_zero, List.set_cons_succ, i64_w, i32_w]
                    rfl
                  refine pure_ (i := 16) (N := some 92) (v := ?_) (a' := ?_) #[true, true, true, true, true, true, true, false, true, true, true, true, true, false, false, true, true, false, false] rfl rfl (by kernel_rfl) (fun _ _ _ h => h) (Or.inl ⟨by rfl, ?_⟩) ?_ ?_
                  rotate_left
                  · intro w'
                    go_simp
                    with_reducible rfl
                  rotate_left
                  · simp only [Act.put, List.setIfInBounds_toArray, List.set_cons_zero, List.set_cons_succ, i64_w, i32_w]
                    rfl
                  refine take_ (i := 7) (N := some 83) (v := ?_) (a' := ?_) #[true, true, true, true, true, true, true, true, true, true, true, true, true, false, false, true, true, false, false] rfl rfl (by kernel_rfl) (fun _ _ _ h => h) (Or.inl ⟨by rfl, ?_⟩) hHeld ?_ ?_
                  rotate_left
                  · rintro w' ⟨s0, s1⟩
                    go_simp
                    with_reducible rfl
                  rotate_left
                  · simp only [Act.put, List.setIfInBounds_toArray, List.set_cons_zero, List.set_cons_succ, i64_w, i32_w]
                    rfl
                  refine take_ (i := 13) (N := some 89) (v := ?_) (a' := ?_) #[true, true, true, true, true, true, true, true, true, true, true, true, true, true, false, true, true, false, false] rfl rfl (by kernel_rfl) (fun _ _ _ h => h) (Or.inl ⟨by rfl, ?_⟩) hHeld ?_ ?_
                  rotate_left
                  · rintro w' ⟨s0, s1⟩
                    go_simp
                    with_reducible rfl
                  rotate_left
                  · simp only [Act.put, List.setIfInBounds_toArray, List.set_cons_zero, List.set_cons_succ, i64_w, i32_w]
                    rfl
                  refine pure_ (i := 14) (N := some 90) (v := ?_) (a' := ?_) #[true, true, true, true, true, true, true, true, true, true, true, true, true, true, true, true, true, false, false] rfl rfl (by kernel_rfl) (fun _ _ _ h => h) (Or.inl ⟨by rfl, ?_⟩) ?_ ?_
                  rotate_left
                  · intro w'
                    go_simp
                    with_reducible rfl
                  rotate_left
                  · simp only [Act.put, List.setIfInBounds_toArray, List.set_cons_zero, List.set_cons_succ, i64_w, i32_w]
                    rfl
                  refine pure_ (i := 17) (N := some 93) (v := ?_) (a' := ?_) #[true, true, true, true, true, true, true, true, true, true, true, true, true, true, true, true, true, true, false] rfl rfl (by kernel_rfl) (fun _ _ _ h => h) (Or.inl ⟨by rfl, ?_⟩) ?_ ?_
                  rotate_left
                  · intro w'
                    go_simp
                    with_reducible rfl
                  rotate_left
                  · simp only [Act.put, List.setIfInBounds_toArray, List.set_cons_zero, List.set_cons_succ, i64_w, i32_w]
                    rfl
                  refine last_ (i := 18) (N := none) #[true, true, true, true, true, true, true, true, true, true, true, true, true, true, true, true, true, true, true] rfl rfl (by kernel_rfl) (by decide) (fun K hK => ?_)
                  refine skip_ (w1 := ?_) (by rfl) rfl ?_ ?_
                  rotate_left
                  · go_simp
                    rfl
                  refine hK.out _ _ ?_
                  clear hK K
                  refine done_ (by kernel_rfl) ?_
                  have F1b : Chunk ((wr.setCell ⟨w.heap.size, i * 2, none⟩ (.int .u8 b1)).setCell ⟨w.heap.size, i * 2 + 1, none⟩ (.int .u8 b2)).drew w.heap.size ((halfC b cs i).set i (b1, b2)) (halfL ls i) (.slice none 0 0) := F1.out.below (below_drew (Below.refl _ _)) F1.out.lt
                  have B1b : Below w.heap.size w ((wr.setCell ⟨w.heap.size, i * 2, none⟩ (.int .u8 b1)).setCell ⟨w.heap.size, i * 2 + 1, none⟩ (.int .u8 b2)).drew := below_drew (Below.setCell (Below.setCell HLP.out.below (Nat.le_refl _) _) (Nat.le_refl _) _)
                  have K1b : ∀ k, k ≠ w.heap.size → k < wb.heap.size → ((wr.setCell ⟨w.heap.size, i * 2, none⟩ (.int .u8 b1)).setCell ⟨w.heap.size, i * 2 + 1, none⟩ (.int .u8 b2)).drew.heap[k]? = wb.heap[k]? := fun k hk hl =>
                    (Below.heap_setCell _ ⟨w.heap.size, i * 2 + 1, none⟩ _ k hk).trans ((Below.heap_setCell wr ⟨w.heap.size, i * 2, none⟩ _ k hk).trans (HLP.out.far k hk hl))
                  generalize ((wr.setCell ⟨w.heap.size, i * 2, none⟩ (.int .u8 b1)).setCell ⟨w.heap.size, i * 2 + 1, none⟩ (.int .u8 b2)).drew = w6 at F1b B1b K1b ⊢
                  clear c0 c1 cf0 cf1 s1 s2 f1 f2 f3 f4 f5 f6 f7 p3 p4 p5 p6
                  obtain ⟨y, hy⟩ : ∃ y : Nat, ls.getD i 0 = (y : Int) := ⟨(ls.getD i 0).toNat, by have := hr1 ls HLB.out i; omega⟩
                  have hy8 : y < 256 := by have := hr1 ls HLB.out i; omega
                  have s1 : w6.cell? ⟨g6, i, none⟩ = some (.int .u8 (y : Int)) := by
                    have h6 := HQ6b.out i hlt
                    rw [hy] at h6
                    rw [← h6]
                    unfold World.cell?
                    rw [K1b g6 (by omega) (World.block_lt_of_cell? wb ⟨g6, i, none⟩ h6)]
                  have HY := Lib.hid hy
                  obtain ⟨c0, c1⟩ := F1b.atL i hlt
                  have cf0 := F1b.frz (8192 + i * 2)
                  have cf1 := F1b.frz (8192 + i * 2 + 1)
                  have F2 := Lib.hid (F1b.setL i hlt (lightOf (y : Int)))
                  have HB1b := Lib.hid B1b
                  have HK1b := Lib.hid K1b
                  clear F1b B1b K1b hy
                  go_wp2_with fail
                  have e15 := and15 y hy8
                  refine start_ (n := 17) (S := fun w' => w'.cell? ⟨g6, i, none⟩ = some (.int .u8 (y : Int))) (ds := [16]) #[false, false, false, false, false, false, false, false, false, false, false, false, false, false, false, false, false] (by kernel_rfl) rfl rfl (s1) (fun hHeld => ?_)
                  refine pure_ (i := 0) (N := some 94) (v := ?_) (a' := ?_) #[true, false, false, false, false, false, false, false, false, false, false, false, false, false, false, false, false] rfl rfl (by kernel_rfl) (fun _ _ _ h => h) (Or.inl ⟨by rfl, ?_⟩) ?_ ?_
                  rotate_left
                  · intro w'
                    go_simp
                    with_reducible rfl
                  rotate_left
                  · simp only [Act.put, List.setIfInBounds_toArray, List.set_cons_zero, List.set_cons_succ, i64_w, i32_w]
                    rfl
                  refine pure_ (i := 1) (N := some 95) (v := ?_) (a' := ?_) #[true, true, false, false, false, false, false, false, false, false, false, false, false, false, false, false, false] rfl rfl (by kernel_rfl) (fun _ _ _ h => h) (Or.inl ⟨by rfl, ?_⟩) ?_ ?_
                  rotate_left
                  · intro w'
                    go_simp
                    with_reducible rfl
                  rotate_left
                  · simp only [Act.put, List.setIfInBounds_toArray, List.set_cons_zero, List.set_cons_succ, i64_w, i32_w]
                    rfl
                  refine pure_ (i := 2) (N := some 96) (v := ?_) (a' := ?_) #[true, true, true, false, false, false, false, false, false, false, false, false, false, false, false, false, false] rfl rfl (by kernel_rfl) (fun _ _ _ h => h) (Or.inl ⟨by rfl, ?_⟩) ?_ ?_
                  rotate_left
                  · intro w'
                    go_simp
                    with_reducible rfl
                  rotate_left
                  · simp only [Act.put, List.setIfInBounds_toArray, List.set_cons_zero, List.set_cons_succ, i64_w, i32_w]
                    rfl
                  refine pure_ (i := 3) (N := some 97) (v := ?_) (a' := ?_) #[true, true, true, true, false, false, false, false, false, false, false, false, false, false, false, false, false] rfl rfl (by kernel_rfl) (fun _ _ _ h => h) (Or.inl ⟨by rfl, ?_⟩) ?_ ?_
                  rotate_left
                  · intro w'
                    go_simp
                    with_reducible rfl
                  rotate_left
                  · simp only [Act.put, List.setIfInBounds_toArray, List.set_cons_zero, List.set_cons_succ, i64_w, i32_w]
                    rfl
                  refine pure_ (i := 4) (N := some 98) (v := ?_) (a' := ?_) #[true, true, true, true, true, false, false, false, false, false, false, false, false, false, false, false, false] rfl rfl (by kernel_rfl) (fun _ _ _ h => h) (Or.inl ⟨by rfl, ?_⟩) ?_ ?_
                  rotate_left
                  · intro w'
                    go_simp
                    with_reducible rfl
                  rotate_left
                  · simp only [Act.put, List.setIfInBounds_toArray, List.set_cons_zero, List.set_cons_succ, i64_w, i32_w]
                    rfl
                  refine pure_ (i := 7) (N := some 101) (v := ?_) (a' := ?_) #[true, true, true, true, true, false, false, true, false, false, false, false, false, false, false, false, false] rfl rfl (by kernel_rfl) (fun _ _ _ h => h) (Or.inl ⟨by rfl, ?_⟩) ?_ ?_
                  rotate_left
                  · intro w'
                    go_simp
                    with_reducible rfl
                  rotate_left
                  · simp only [Act.put, List.setIfInBounds_toArray, List.set_cons_zero, List.set_cons_succ, i64_w, i32_w]
                    rfl
                  refine pure_ (i := 8) (N := some 102) (v := ?_) (a' := ?_) #[true, true, true, true, true, false, false, true, true, false, false, false, false, false, false, false, false] rfl rfl (by kernel_rfl) (fun _ _ _ h => h) (Or.inl ⟨by rfl, ?_⟩) ?_ ?_
                  rotate_left
                  · intro w'
                    go_simp
                    with_reducible rfl
                  rotate_left
                  · simp only [Act.put, List.setIfInBounds_toArray, List.set_cons_zero, List.set_cons_succ, i64_w, i32_w]
                    rfl
                  refine pure_ (i := 9) (N := some 103) (v := ?_) (a' := ?_) #[true, true, true, true, true, false, false, true, true, true, false, false, false, false, false, false, false] rfl rfl (by kernel_rfl) (fun _ _ _ h => h) (Or.inl ⟨by rfl, ?_⟩) ?_ ?_
                  rotate_left
                  · intro w'
                    go_simp
                    with_reducible rfl
                  rotate_left
                  · simp only [Act.put, List.setIfInBounds_toArray, List.set_cons_zero, List.set_cons_succ, i64_w, i32_w]
                    rfl
                  refine pure_ (i := 13) (N := some 107) (v := ?_) (a' := ?_) #[true, true, true, true, true, false, false, true, true, true, false, false, false, true, false, false, false] rfl rfl (by kernel_rfl) (fun _ _ _ h => h) (Or.inl ⟨by rfl, ?_⟩) ?_ ?_
                  rotate_left
                  · intro w'
                    go_simp
                    with_reducible rfl
                  rotate_left
                  · simp only [Act.put, List.setIfInBounds_toArray, List.set_cons_zero, List.set_cons_succ, i64_w, i32_w]
                    rfl
                  refine pure_ (i := 14) (N := some 108) (v := ?_) (a' := ?_) #[true, true, true, true, true, false, false, true, true, true, false, false, false, true, true, false, false] rfl rfl (by kernel_rfl) (fun _ _ _ h => h) (Or.inl ⟨by rfl, ?_⟩) ?_ ?_
                  rotate_left
                  · intro w'
                    go_simp
                    with_reducible rfl
                  rotate_left
                  · simp only [Act.put, List.setIfInBounds_toArray, List.set_cons_zero, List.set_cons_succ, i64_w, i32_w]
                    rfl
                  refine take_ (i := 5) (N := some 99) (v := ?_) (a' := ?_) #[true, true, true, true, true, true, false, true, true, true, false, false, false, true, true, false, false] rfl rfl (by kernel_rfl) (fun _ _ _ h => h) (Or.inl ⟨by rfl, ?_⟩) hHeld ?_ ?_
                  rotate_left
                  · intro w' s0
                    go_simp
                    with_reducible rfl
                  rotate_left
                  · simp only [Act.put, List.setIfInBounds_toArray, List.set_cons_zero, List.set_cons_succ, i64_w, i32_w]
                    rfl
                  refine pure_ (i := 6) (N := some 100) (v := ?_) (a' := ?_) #[true, true, true, true, true, true, true, true, true, true, false, false, false, true, true, false, false] rfl rfl (by kernel_rfl) (fun _ _ _ h => h) (Or.inl ⟨by rfl, ?_⟩) ?_ ?_
                  rotate_left
                  · intro w'
                    go_simp
                    with_reducible rfl
                  rotate_left
                  · simp only [Act.put, List.setIfInBounds_toArray, List.set_cons_zero, List.set_cons_succ, i64_w, i32_w]
                    rfl
                  refine take_ (i := 10) (N := some 104) (v := ?_) (a' := ?_) #[true, true, true, true, true, true, true, true, true, true, true, false, false, true, true, false, false] rfl rfl (by kernel_rfl) (fun _ _ _ h => h) (Or.inl ⟨by rfl, ?_⟩) hHeld ?_ ?_
                  rotate_left
                  · intro w' s0
                    go_simp
                    with_reducible rfl
                  rotate_left
                  · simp only [Act.put, List.setIfInBounds_toArray, List.set_cons_zero, List.set_cons_succ, i64_w, i32_w]
                    rfl
                  refine pure_ (i := 11) (N := some 105) (v := ?_) (a' := ?_) #[true, true, true, true, true, true, true, true, true, true, true, true, false, true, true, false, false] rfl rfl (by kernel_rfl) (fun _ _ _ h => h) (Or.inl ⟨by rfl, ?_⟩) ?_ ?_
                  rotate_left
                  · intro w'
                    go_simp
                    with_reducible rfl
                  rotate_left
                  · simp only [Act.put, List.setIfInBounds_toArray, List.set_cons_zero, List.set_cons_succ, i64_w, i32_w]
                    rfl
                  refine pure_ (i := 12) (N := some 106) (v := ?_) (a' := ?_) #[true, true, true, true, true, true, true, true, true, true, true, true, true, true, true, false, false] rfl rfl (by kernel_rfl) (fun _ _ _ h => h) (Or.inl ⟨by rfl, ?_⟩) ?_ ?_
                  rotate_left
                  · intro w'
                    go_simp
                    with_reducible rfl
                  rotate_left
                  · simp only [Act.put, List.setIfInBounds_toArray, List.set_cons_zero, List.set_cons_succ, i64_w, i32_w]
                    rfl
                  refine pure_ (i := 15) (N := some 109) (v := ?_) (a' := ?_) #[true, true, true, true, true, true, true, true, true, true, true, true, true, true, true, true, false] rfl rfl (by kernel_rfl) (fun _ _ _ h => h) (Or.inl ⟨by rfl, ?_⟩) ?_ ?_
                  rotate_left
                  · intro w'
                    go_simp
                    with_reducible rfl
                  rotate_left
                  · simp only [Act.put, List.setIfInBounds_toArray, List.set_cons_zero, List.set_cons_succ, i64_w, i32_w]
                    rfl
                  refine last_ (i := 16) (N := none) #[true, true, true, true, true, true, true, true, true, true, true, true, true, true, true, true, true] rfl rfl (by kernel_rfl) (by decide) (fun K hK => ?_)
                  refine skip_ (w1 := ?_) (by rfl) rfl ?_ ?_
                  rotate_left
                  · go_simp
                    rfl
                  refine hK.out _ _ ?_
                  clear hK K
                  refine done_ (by kernel_rfl) ?_
                  have F2b : Chunk ((w6.setCell ⟨w.heap.size, 8192 + i * 2, none⟩ (.int .u8 ((y : Int) / 16))).setCell ⟨w.heap.size, 8192 + i * 2 + 1, none⟩ (.int .u8 ((y : Int) % 16))).drew w.heap.size (halfC b cs (i + 1)) (halfL ls (i + 1)) (.slice none 0 0) := by
                    have h := F2.out.below (below_drew (Below.refl _ _)) F2.out.lt
                    have h1 := half_set (palAt b) cs HCL.out i hlt
                    have h2 := half_set lightOf ls HLL.out i hlt
                    rw [HPA.out] at h1
                    rw [HY.out] at h2
                    unfold halfC halfL at h ⊢
                    rw [h1, h2] at h
                    exact h
                  have B2b : Below w.heap.size w ((w6.setCell ⟨w.heap.size, 8192 + i * 2, none⟩ (.int .u8 ((y : Int) / 16))).setCell ⟨w.heap.size, 8192 + i * 2 + 1, none⟩ (.int .u8 ((y : Int) % 16))).drew := below_drew (Below.setCell (Below.setCell HB1b.out (Nat.le_refl _) _) (Nat.le_refl _) _)
                  have K2b : ∀ k, k ≠ w.heap.size → k < wb.heap.size → ((w6.setCell ⟨w.heap.size, 8192 + i * 2, none⟩ (.int .u8 ((y : Int) / 16))).setCell ⟨w.heap.size, 8192 + i * 2 + 1, none⟩ (.int .u8 ((y : Int) % 16))).drew.heap[k]? = wb.heap[k]? := fun k hk hl =>
                    (Below.heap_setCell _ ⟨w.heap.size, 8192 + i * 2 + 1, none⟩ _ k hk).trans ((Below.heap_setCell w6 ⟨w.heap.size, 8192 + i * 2, none⟩ _ k hk).trans (HK1b.out k hk hl))
                  generalize ((w6.setCell ⟨w.heap.size, 8192 + i * 2, none⟩ (.int .u8 ((y : Int) / 16))).setCell ⟨w.heap.size, 8192 + i * 2 + 1, none⟩ (.int .u8 ((y : Int) % 16))).drew = w7 at F2b B2b K2b ⊢
                  have HG := Lib.hid (⟨B2b, K2b, F2b⟩ : Lp w wb w7 b cs ls (i + 1))
                  clear F2b B2b K2b c0 c1 cf0 cf1 s1 e15 F1 F2
                  go_wp2
                  go_roundw
                  case rel => exact ⟨i + 1, by omega, by go_num, ⟨HG.out⟩⟩
                  case measure => simp [intOf]; omega
                · have d5 := decide_eq_true (show (k : Int) ≤ (x : Int) by omega)
                  have hF := Lib.hid (show ∀ C L T, ¬ Pk b C L T from fun C L T h => by
                    obtain ⟨⟨h1, _⟩, h2⟩ := HP2.out C L T h
                    have hm : (cs.getD i 0) ∈ cs := by
                      rw [List.getD_eq_getElem?_getD, List.getElem?_eq_getElem (by rw [HCL.out]; exact hlt)]
                      exact List.getElem_mem _
                    rw [HX.out, h1] at hm
                    have := h.below _ hm
                    omega)
                  go_wp2
                  go_step3
                  exact ⟨rfl, rfl, rfl, hF.out, HLP.out.below⟩
              · obtain rfl : i = 4096 := by omega
                have hC : halfC b cs 4096 = cs.map (palAt b) := by
                  unfold halfC
                  rw [List.take_of_length_le (by rw [HCL.out]; exact Nat.le_refl _), Nat.sub_self]
                  simp
                have hL : halfL ls 4096 = ls.map lightOf := by
                  unfold halfL
                  rw [List.take_of_length_le (by rw [HLL.out]; exact Nat.le_refl _), Nat.sub_self]
                  simp
                have hch := HLP.out.ch
                rw [hC, hL] at hch
                have HCH := Lib.hid hch
                have HBR := Lib.hid HLP.out.below
                obtain ⟨Cf, hCf⟩ : ∃ Cf, cs.map (palAt b) = Cf := ⟨_, rfl⟩
                obtain ⟨Lf, hLf⟩ : ∃ Lf, ls.map lightOf = Lf := ⟨_, rfl⟩
                rw [hCf, hLf] at HCH
                have HP3 := Lib.hid (show ∀ C L T, Pk b C L T → C = Cf ∧ L = Lf ∧ r2 = tailT T from fun C L T h => by
                  obtain ⟨⟨h1, h2, h3⟩, _⟩ := HP2.out C L T h
                  exact ⟨by rw [← hCf, h1, h.cells], by rw [← hLf, h2, h.light], h3⟩)
                have HUC := Lib.hid (show U8 Cf from fun p hp => by
                  rw [← hCf] at hp
                  obtain ⟨x, _, rfl⟩ := List.mem_map.1 hp
                  exact ⟨hr1 b HB.out _, hr1 b HB.out _⟩)
                have HUL := Lib.hid (show U8 Lf from fun p hp => by
                  rw [← hLf] at hp
                  obtain ⟨x, hx, rfl⟩ := List.mem_map.1 hp
                  have := HLB.out x hx
                  unfold lightOf
                  simp only
                  omega)
                clear hC hL hch hCf hLf HLP HP2
                obtain ⟨A3, hcut3, hrd3, hA3⟩ := cutFrom (some ad) b c at3 hat3l HC.out
                have hne := Lib.hid (fun W (h : Below w.heap.size w W) => (show Calls Try.prog 31 #[.slice A3 (b.length - at3) (c - at3)] W fun e w' => ∃ g, e = .returned (.pointer (some ⟨g, 0, none⟩)) ∧ W.heap.size ≤ g ∧ BQ.Rdr (fun k => W.heap.size ≤ k ∧ k < g) w' g r2 false ∧ Below W.heap.size W w' from by
                  have := BQ.new_calls A3 (c - at3) (b.drop at3) W (hrd3 W (HR.out.below h)) (by rw [List.length_drop]; have := HC.out; omega) (HB.out.drop _) (by rw [List.length_drop]; omega)
                  rw [HD3.out, HR2.out] at this
                  exact this))
                clear hrd3 hA3 d0 i0 e1 e2 hlen
                go_wp2_with fail
                refine (hne.out _ HBR.out).mono ?_; rintro e w9 ⟨rg, rfl, hrg, hrd, hb9⟩
                have HB9 := Lib.hid (below_step HBR.out hb9)
                have HC9 := Lib.hid (HCH.out.below hb9 HCH.out.lt)
                have HRD := Lib.hid hrd
                have hrgl : rg < w9.heap.size := hrd.lt
                have hrg1 : w.heap.size < rg := by have := HCH.out.lt; omega
                have hNum := Lib.hid (BQ.num_calls rg r2 false w9 hrd)
                have hr9 := hr1
                obtain ⟨n8, hn8⟩ : ∃ n8, wr.heap.size = n8 := ⟨_, rfl⟩
                have hn8l : w.heap.size < n8 := by have := HCH.out.lt; omega
                rw [hn8] at HRD hNum hrg
                have HTS := Lib.hid (TS.start (b := b) (X := r2) (fun C L T h => (HP3.out C L T h).2.2))
                have hnr := rNum_lt r2 false (show Bytes r2 from by rw [← HD3.out]; exact HB.out.drop _)
                obtain ⟨⟨m0, s0⟩, hms⟩ : ∃ q, rNum (r2, false) = q := ⟨_, rfl⟩
                rw [hms] at hNum HTS hnr
                simp only at hNum HTS hnr
                clear hcut3 hne hb9 hrd hms hn8 HCH HCHb HQ5b HQ6b hg5 hg5l hg6 hg6l hg6n hc5 hc6 hwab hi z1 z2 z3 hat1l hat2l hat3l hk8 hk1 d1 hr9
                go_wp2_with fail
                refine hNum.out.mono ?_; rintro e w10 ⟨rfl, hrd, hg⟩
                have HT0 := Lib.hid (⟨belowg HB9.out hg HB9.out.size (by omega), hrd, HC9.out.grown hg (by simp; omega), Kd.R_nil _ _ _ _ _, HTS.out⟩ : Tl w w10 n8 rg b Cf Lf [] s0 (.slice none 0 0) m0 (-1))
                clear hrd hg hNum HB9 HC9 HRD HTS hrgl
                go_wp2_with fail
                obtain ⟨w8, hw8⟩ : ∃ w8, w8 = wr := ⟨_, rfl⟩
                go_loopw [10, 11] (fun av mv W => ∃ (T : List Pr) (at_ : Int) (m : Nat) (s : St) (v : Value), av = .int .i64 at_ ∧ mv = .int .u64 (m : Int) ∧ m < 18446744073709551616 ∧ (-1 ≤ at_ ∧ at_ ≤ 4097 * (T.length : Int)) ∧ T.length ≤ 4097 ∧ Aside0 (Tl w W n8 rg b Cf Lf T s v m at_)) (fun _ mv _ => (intOf mv).toNat)
                case atStart => exact ⟨[], -1, m0, s0, _, rfl, rfl, hnr, by simp, by simp, ⟨HT0.out⟩⟩
                case round =>
                  obtain ⟨T, at_, m, s, v, rfl, rfl, hm64, hatb, hTl, ⟨htl⟩⟩ := hrel
                  have HL := Lib.hid htl
                  clear htl
                  by_cases hm : 0 < m
                  · have d2 := decide_eq_true (show (0 : Int) < (m : Int) by omega)
                    have d2' := decide_eq_true (show 0 < m by omega)
                    have HE := Lib.hid (BQ.err_calls rg s.1 s.2 wr HL.out.rdr)
                    cases hs2 : s.2 with
                    | true =>
                      rw [hs2] at HE
                      have HST := Lib.hid (HL.out.ts.stop (.inr (.inl hs2)))
                      clear hs2
                      go_wp2_with fail
                      refine HE.out.mono ?_; rintro e w11 ⟨rfl, ⟨nd, rfl⟩⟩
                      have HL2 := Lib.hid (HL.out.under (pw_below_drewN (Below.refl _ _) nd))
                      clear HL
                      obtain ⟨A9, c9, hv9, hc9, hC9⟩ := Kd.R_reads HL2.out.tk
                      first | subst hv9 | (have hv8 := hv9.symm; simp only [Value.slice.injEq, true_and] at hv8; obtain ⟨hv6, hv7⟩ := hv8; subst hv6 hv7; clear hv9)
                      have hFs := Lib.hid (show ∀ C L T', Pk b C L T' → C = Cf ∧ L = Lf ∧ T' = T from fun C L T' h => ⟨(HP3.out C L T' h).1, (HP3.out C L T' h).2.1, HST.out C L T' h⟩)
                      have hlen9 : T.length ≤ 1000000 := by omega
                      cases hm0 : mayB Cf Lf T with
                      | false =>
                        have hput := Lib.hid (pput_no _ _ _ _ A9 c9 _ HL2.out.ch hC9 HUC.out HUL.out (by omega) hm0)
                        have hF := Lib.hid (show ∀ C L T', ¬ Pk b C L T' from fun C L T' h => by
                          obtain ⟨rfl, rfl, rfl⟩ := hFs.out C L T' h
                          rw [h.may] at hm0
                          cases hm0)
                        clear hm0 hC9 hc9
                        go_wp2_with fail
                        refine hput.out.mono ?_; rintro e wp ⟨rfl, hbp⟩
                        have HBP := Lib.hid (below_step HL2.out.below hbp)
                        clear hbp hput
                        go_wp2
                        go_step3
                        go_wp2
                        simp only [Exit.jump]
                        go_ret2
                        exact ⟨.inl ⟨rfl, hF.out⟩, HBP.out⟩
                      | true =>
                        have hput := Lib.hid (pput_calls _ _ _ _ A9 c9 _ HL2.out.ch hC9 HUC.out HUL.out hlen9 hm0)
                        have hPB := Lib.hid (pack_bytes HUC.out HUL.out HL2.out.ch.lenC HL2.out.ch.lenL hm0)
                        have HM0 := Lib.hid hm0
                        have HTK := Lib.hid (show TK _ (.slice A9 T.length c9) T from ⟨A9, c9, rfl, hc9, hC9⟩)
                        clear hm0 hC9 hc9
                        go_wp2_with fail
                        refine hput.out.mono ?_; rintro e wp ⟨vp, rfl, hop, hbp⟩
                        obtain ⟨Ap, cp, rfl, hcp, hrp⟩ := OB.slice hop
                        have HLp := Lib.hid (HL2.out.under hbp)
                        have HTKp := Lib.hid (show TK wp (.slice A9 T.length c9) T from by
                          obtain ⟨A, c, e1, e2, e3⟩ := HTK.out
                          exact ⟨A, c, e1, e2, Kd.C_below e3 hbp⟩)
                        have heq := Lib.hid (equal_calls Ap (some ad) cp c (packB Cf Lf T) b wp hrp hcp (HR.out.below HLp.out.below) HC.out hPB.out HB.out)
                        clear hop hcp hrp hbp hput
                        go_wp2_with fail
                        refine heq.out.mono ?_; rintro e wq ⟨rfl, ⟨nq, rfl⟩⟩
                        by_cases hpb : packB Cf Lf T = b
                        · have hd9 : decide (packB Cf Lf T = b) = true := decide_eq_true hpb
                          have HPK := Lib.hid (⟨HLp.out.ch.lenC, HLp.out.ch.lenL, HUC.out, HUL.out, HM0.out, hpb⟩ : Pk b Cf Lf T)
                          clear hpb
                          go_wp2
                          simp only [Exit.jump]
                          go_ret2
                          exact ⟨.inr ⟨Cf, Lf, T, _, rfl, HLp.out.ch.below (pw_below_drewN (Below.refl _ _) _) HLp.out.ch.lt, (by
                            obtain ⟨A, c, e1, e2, e3⟩ := HTKp.out
                            exact ⟨A, c, e1, e2, Kd.C_below e3 (pw_below_drewN (Below.refl _ _) _)⟩), HPK.out⟩, pw_below_drewN HLp.out.below _⟩
                        · have hd9 : decide (packB Cf Lf T = b) = false := decide_eq_false hpb
                          have hF := Lib.hid (show ∀ C L T', ¬ Pk b C L T' from fun C L T' h => by
                            obtain ⟨rfl, rfl, rfl⟩ := hFs.out C L T' h
                            exact hpb h.eq)
                          clear hpb
                          go_wp2
                          go_step3
                          go_wp2
                          simp only [Exit.jump]
                          go_ret2
                          exact ⟨.inl ⟨rfl, hF.out⟩, pw_below_drewN HLp.out.below _⟩
                    | false =>
                      rw [hs2] at HE
                      have Hs2 := Lib.hid hs2
                      clear hs2
                      obtain ⟨A7, c7, rfl, hc7, hC7⟩ := Kd.R_reads HL.out.tk
                      clear hC7
                      go_wp2_with fail
                      refine HE.out.mono ?_; rintro e w11 ⟨rfl, ⟨nd, rfl⟩⟩
                      have HL2 := Lib.hid (HL.out.under (pw_below_drewN (Below.refl _ _) nd))
                      clear HL
                      have t7 := HL2.out.ch.atT
                      by_cases hfew : T.length ≤ 4096
                      · have d3 := decide_eq_true (show (T.length : Int) ≤ 4096 by omega)
                        have hb1 : Bytes s.1 := HL2.out.rdr.bytes
                        have hNum := Lib.hid (BQ.num_calls rg s.1 s.2 _ HL2.out.rdr)
                        have hn1 := rNum_lt s.1 s.2 hb1
                        have HTS := HL2.out.ts.step (by omega)
                        obtain ⟨⟨n1, s1⟩, hs1⟩ : ∃ q, rNum (s.1, s.2) = q := ⟨_, rfl⟩
                        rw [hs1] at hNum HTS hn1
                        simp only at hNum HTS hn1
                        obtain ⟨e1, he1⟩ : ∃ e1 : Nat, e1 = min n1 4096 := ⟨_, rfl⟩
                        have he1l : e1 ≤ 4096 := by omega
                        have k1 : (if (4096 : Int) < (n1 : Int) then (4096 : Int) else (n1 : Int)) = (e1 : Int) := by split <;> omega
                        rw [← he1] at HTS
                        obtain ⟨a1, ha1⟩ : ∃ a1 : Int, at_ + (1 + (e1 : Int)) = a1 := ⟨_, rfl⟩
                        have ha1b : -1 ≤ a1 ∧ a1 ≤ 4097 * ((T.length : Int) + 1) := by omega
                        rw [ha1] at HTS
                        have HTS1 := Lib.hid HTS
                        clear he1 hs1 HTS
                        go_wp2_with fail
                        refine hNum.out.mono ?_; rintro e w11 ⟨rfl, hrd1, hg1⟩
                        have HC1 := Lib.hid (HL2.out.ch.grown hg1 (by simp; omega))
                        have HT1 := Lib.hid (Kd.R_grown HL2.out.tk hg1 (fun k hk => by simp; omega))
                        have HB1 := Lib.hid (belowg HL2.out.below hg1 HL2.out.below.size (by omega))
                        have HRD1 := Lib.hid hrd1
                        clear hrd1 hg1 hNum t7
                        go_wp2_with fail
                        clear k1 ha1
                        have hNum2 := Lib.hid (BQ.num_calls rg s1.1 s1.2 w11.drew (HRD1.out.below (below_drew (Below.refl _ _))))
                        have hb2 : Bytes s1.1 := HRD1.out.bytes
                        have hn2 := rNum_lt s1.1 s1.2 hb2
                        have HTS2 := HTS1.out
                        obtain ⟨⟨n2, s2⟩, hs2⟩ : ∃ q, rNum (s1.1, s1.2) = q := ⟨_, rfl⟩
                        rw [show rNum s1 = rNum (s1.1, s1.2) from rfl, hs2] at HTS2
                        rw [hs2] at hNum2 hn2
                        simp only at hNum2 hn2 HTS2
                        obtain ⟨e2, he2⟩ : ∃ e2 : Nat, e2 = min n2 2199023255553 := ⟨_, rfl⟩
                        have he2l : e2 ≤ 2199023255553 := by omega
                        have k2 : (if (2199023255553 : Int) < (n2 : Int) then (2199023255553 : Int) else (n2 : Int)) = (e2 : Int) := by split <;> omega
                        rw [← he2] at HTS2
                        have HTS3 := Lib.hid HTS2
                        have t8 := (HC1.out.below (below_drew (Below.refl w11.heap.size w11)) HC1.out.lt).atT
                        clear he2 hs2 HTS2 hb2
                        have k4 : wrap64 (e2 : Int) = (e2 : Int) := w64n _ (by omega)
                        obtain ⟨m1, hm1⟩ : ∃ m1 : Nat, m = m1 + 1 := ⟨m - 1, by omega⟩
                        rw [show m - 1 = m1 by omega] at HTS3
                        have k5 : IntKind.u64.wrap ((m : Int) - 1) = (m1 : Int) := by rw [show (m : Int) - 1 = (m1 : Int) by omega]; exact CF.wu64_id _ (by omega) (by omega)
                        have k6 : (m : Int) - 1 = (m1 : Int) := by omega
                        have hm1l : m1 < 18446744073709551616 := by omega
                        have Hm1 := Lib.hid hm1
                        clear hm1
                        refine start_ (n := 16) (S := fun w' => w'.cell? ⟨w.heap.size, 16384, none⟩ = some (.slice A7 T.length c7)) (ds := [15]) #[false, false, false, false, false, false, false, false, false, false, false, false, false, false, false, false] (by kernel_rfl) rfl rfl (t8) (fun hHeld => ?_)
                        refine pure_ (i := 0) (N := some 143) (v := ?_) (a' := ?_) #[true, false, false, false, false, false, false, false, false, false, false, false, false, false, false, false] rfl rfl (by kernel_rfl) (fun _ _ _ h => h) (Or.inl ⟨by rfl, ?_⟩) ?_ ?_
                        rotate_left
                        · intro w'
                          go_simp
                          with_reducible rfl
                        rotate_left
                        · simp only [Act.put, List.setIfInBounds_toArray, List.set_cons_zero, List.set_cons_succ, i64_w, i32_w]
                          rfl
                        refine pure_ (i := 1) (N := some 144) (v := ?_) (a' := ?_) #[true, true, false, false, false, false, false, false, false, false, false, false, false, false, false, false] rfl rfl (by kernel_rfl) (fun _ _ _ h => h) (Or.inl ⟨by rfl, ?_⟩) ?_ ?_
                        rotate_left
                        · intro w'
                          go_simp
                          with_reducible rfl
                        rotate_left
                        · simp only [Act.put, List.setIfInBounds_toArray, List.set_cons_zero, List.set_cons_succ, i64_w, i32_w]
                          rfl
                        refine pure_ (i := 2) (N := some 145) (v := ?_) (a' := ?_) #[true, true, true, false, false, false, false, false, false, false, false, false, false, false, false, false] rfl rfl (by kernel_rfl) (fun _ _ _ h => h) (Or.inl ⟨by rfl, ?_⟩) ?_ ?_
                        rotate_left
                        · intro w'
                          go_simp
                          with_reducible rfl
                        rotate_left
                        · simp only [Act.put, List.setIfInBounds_toArray, List.set_cons_zero, List.set_cons_succ, i64_w, i32_w]
                          rfl
                        refine pure_ (i := 3) (N := some 146) (v := ?_) (a' := ?_) #[true, true, true, true, false, false, false, false, false, false, false, false, false, false, false, false] rfl rfl (by kernel_rfl) (fun _ _ _ h => h) (Or.inl ⟨by rfl, ?_⟩) ?_ ?_
                        rotate_left
                        · intro w'
                          go_simp
                          with_reducible rfl
                        rotate_left
                        · simp only [Act.put, List.setIfInBounds_toArray, List.set_cons_zero, List.set_cons_succ, i64_w, i32_w]
                          rfl
                        refine pure_ (i := 5) (N := some 148) (v := ?_) (a' := ?_) #[true, true, true, true, false, true, false, false, false, false, false, false, false, false, false, false] rfl rfl (by kernel_rfl) (fun _ _ _ h => h) (Or.inl ⟨by rfl, ?_⟩) ?_ ?_
                        rotate_left
                        · intro w'
                          go_simp
                          with_reducible rfl
                        rotate_left
                        · simp only [Act.put, List.setIfInBounds_toArray, List.set_cons_zero, List.set_cons_succ, i64_w, i32_w]
                          rfl
                        refine pure_ (i := 6) (N := some 149) (v := ?_) (a' := ?_) #[true, true, true, true, false, true, true, false, false, false, false, false, false, false, false, false] rfl rfl (by kernel_rfl) (fun _ _ _ h => h) (Or.inl ⟨by rfl, ?_⟩) ?_ ?_
                        rotate_left
                        · intro w'
                          go_simp
                          with_reducible rfl
                        rotate_left
                        · simp only [Act.put, List.setIfInBounds_toArray, List.set_cons_zero, List.set_cons_succ, i64_w, i32_w]
                          rfl
                        refine take_ (i := 4) (N := some 147) (v := ?_) (a' := ?_) #[true, true, true, true, true, true, true, false, false, false, false, false, false, false, false, false] rfl rfl (by kernel_rfl) (fun _ _ _ h => h) (Or.inl ⟨by rfl, ?_⟩) hHeld ?_ ?_
                        rotate_left
                        · intro w' s0
                          go_simp
                          with_reducible rfl
                        rotate_left
                        · simp only [Act.put, List.setIfInBounds_toArray, List.set_cons_zero, List.set_cons_succ, i64_w, i32_w]
                          rfl
                        refine one_ (i := 7) (N := some 150) #[true, true, true, true, true, true, true, true, false, false, false, false, false, false, false, false] rfl rfl (by kernel_rfl) (by decide) (fun K hK => ?_)
                        refine goes_ Try.func32 (by kernel_rfl) rfl #[.pointer (some ⟨rg, 0, none⟩)] (by rfl) rfl rfl (by simp only [List.map_toArray, List.map_cons, List.map_nil]; rfl) ?_
                        with_reducible refine (hNum2.out).mono ?_
                        rintro e w12 ⟨rfl, hrd2, hg2⟩
                        refine ⟨_, rfl, ?_⟩
                        have HC2 := Lib.hid ((HC1.out.below (below_drew (Below.refl _ _)) HC1.out.lt).grown hg2 (by simp; omega))
                        have HT2 := Lib.hid (Kd.R_grown (Kd.R_below HT1.out (below_drew (Below.refl _ _))) hg2 (fun k hk => by simp; omega))
                        have HB2 := Lib.hid (belowg (below_drew HB1.out) hg2 (below_drew HB1.out).size (by omega))
                        have HRD2 := Lib.hid hrd2
                        have hrl : rg < w12.heap.size := hrd2.lt
                        clear hrd2 hg2 t8
                        refine hK.out _ _ (HC2.out.atT) (fun hHeld => ?_)
                        clear hK K
                        refine norm_ (a' := ?_) ?_ ?_
                        rotate_left
                        · show Act.put _ (some 150) _ = _
                          simp only [Act.put, List.setIfInBounds_toArray, List.set_cons_zero, List.set_cons_succ, i64_w, i32_w]
                          rfl
                        refine pure_ (i := 8) (N := some 151) (v := ?_) (a' := ?_) #[true, true, true, true, true, true, true, true, true, false, false, false, false, false, false, false] rfl rfl (by kernel_rfl) (fun _ _ _ h => h) (Or.inl ⟨by rfl, ?_⟩) ?_ ?_
                        rotate_left
                        · intro w'
                          go_simp
                          with_reducible rfl
                        rotate_left
                        · simp only [Act.put, List.setIfInBounds_toArray, List.set_cons_zero, List.set_cons_succ, i64_w, i32_w]
                          rfl
                        refine take_ (i := 9) (N := some 152) (v := ?_) (a' := ?_) #[true, true, true, true, true, true, true, true, true, true, false, false, false, false, false, false] rfl rfl (by kernel_rfl) (fun _ _ _ h => h) (Or.inl ⟨by rfl, ?_⟩) hHeld ?_ ?_
                        rotate_left
                        · intro w' s0
                          go_simp
                          with_reducible rfl
                        rotate_left
                        · simp only [Act.put, List.setIfInBounds_toArray, List.set_cons_zero, List.set_cons_succ, i64_w, i32_w]
                          rfl
                        refine pure_ (i := 10) (N := some 153) (v := ?_) (a' := ?_) #[true, true, true, true, true, true, true, true, true, true, true, false, false, false, false, false] rfl rfl (by kernel_rfl) (fun _ _ _ h => h) (Or.inl ⟨by rfl, ?_⟩) ?_ ?_
                        rotate_left
                        · intro w'
                          go_simp
                          with_reducible rfl
                        rotate_left
                        · simp only [Act.put, List.setIfInBounds_toArray, List.set_cons_zero, List.set_cons_succ, i64_w, i32_w]
                          rfl
                        refine one_ (i := 11) (N := some 154) #[true, true, true, true, true, true, true, true, true, true, true, true, false, false, false, false] rfl rfl (by kernel_rfl) (by decide) (fun K hK => ?_)
                        refine value_ (w1 := ?_) (v := ?_) (by rfl) rfl ?_ ?_
                        rotate_left 2
                        · go_simp
                          constructor
                          · rfl
                          · rfl
                        refine hK.out _ _ ((HC2.out.below (below_alloc (Below.refl _ _) _) HC2.out.lt).atT) (fun hHeld => ?_)
                        clear hK K
                        refine norm_ (a' := ?_) ?_ ?_
                        rotate_left
                        · show Act.put _ (some 154) _ = _
                          simp only [Act.put, List.setIfInBounds_toArray, List.set_cons_zero, List.set_cons_succ, i64_w, i32_w]
                          rfl
                        refine one_ (i := 12) (N := some 155) #[true, true, true, true, true, true, true, true, true, true, true, true, true, false, false, false] rfl rfl (by kernel_rfl) (by decide) (fun K hK => ?_)
                        refine Kd.R_append_step kT w.heap.size (by rfl) (.tmp 147) (.tmp 154) 23 48 (.agg #[.int .i64 0, .int .i64 0]) 16 rfl Try.underlying23 infoTick' (by rfl) (by decide) (by decide) (.slice A7 T.length c7) T (a1, (e2 : Int)) [.int .i64 a1, .int .i64 (e2 : Int)] (fun k => rg < k) (fun _ => False) rfl rfl ⟨[_], [_], rfl, rfl, rfl⟩ (fun _ h => h.elim) (fun q hq => by omega) HT2.out HB2.out HB2.out.size (by omega) ?_
                        intro v9 w13 hr9 hb9 hg9 hat9
                        have HC3 := Lib.hid (HC2.out.grown hg9 (fun e => by have := HT2.out.1 _ e.symm; omega))
                        have HRD3 := Lib.hid (HRD2.out.far hg9 (fun e => by have := HT2.out.1 _ e.symm; omega) (fun k e hk => by have := HT2.out.1 _ e; omega))
                        obtain ⟨A9, c9, rfl, hc9, hd9⟩ := Kd.R_reads hr9
                        clear hc9 hd9
                        have HR3 := Lib.hid hr9
                        have HB3 := Lib.hid hb9
                        clear hr9 hb9 hg9 hat9
                        have t9 := HC3.out.atT
                        have cf9 := HC3.out.frz 16384
                        refine hK.out _ _ (t9) (fun hHeld => ?_)
                        clear hK K
                        refine norm_ (a' := ?_) ?_ ?_
                        rotate_left
                        · show Act.put _ (some 155) _ = _
                          simp only [Act.put, List.setIfInBounds_toArray, List.set_cons_zero, List.set_cons_succ, i64_w, i32_w]
                          rfl
                        refine pure_ (i := 13) (N := some 156) (v := ?_) (a' := ?_) #[true, true, true, true, true, true, true, true, true, true, true, true, true, true, false, false] rfl rfl (by kernel_rfl) (fun _ _ _ h => h) (Or.inl ⟨by rfl, ?_⟩) ?_ ?_
                        rotate_left
                        · intro w'
                          go_simp
                          with_reducible rfl
                        rotate_left
                        · simp only [Act.put, List.setIfInBounds_toArray, List.set_cons_zero, List.set_cons_succ, i64_w, i32_w]
                          rfl
                        refine pure_ (i := 14) (N := some 157) (v := ?_) (a' := ?_) #[true, true, true, true, true, true, true, true, true, true, true, true, true, true, true, false] rfl rfl (by kernel_rfl) (fun _ _ _ h => h) (Or.inl ⟨by rfl, ?_⟩) ?_ ?_
                        rotate_left
                        · intro w'
                          go_simp
                          with_reducible rfl
                        rotate_left
                        · simp only [Act.put, List.setIfInBounds_toArray, List.set_cons_zero, List.set_cons_succ, i64_w, i32_w]
                          rfl
                        refine last_ (i := 15) (N := none) #[true, true, true, true, true, true, true, true, true, true, true, true, true, true, true, true] rfl rfl (by kernel_rfl) (by decide) (fun K hK => ?_)
                        refine skip_ (w1 := ?_) (by rfl) rfl ?_ ?_
                        rotate_left
                        · go_simp
                          rfl
                        refine hK.out _ _ ?_
                        clear hK K
                        refine done_ (by kernel_rfl) ?_
                        have hlT : (T ++ [(a1, (e2 : Int))]).length = T.length + 1 := by rw [List.length_append, List.length_singleton]
                        have HN0 := (⟨Below.setCell HB3.out (Nat.le_refl _) _, HRD3.out.far (gset (World.grownBy.refl w13 (some w.heap.size)) 16384 (.slice A9 (T ++ [(a1, (e2 : Int))]).length c9)) (fun e => by injection e with e; omega) (fun k e hk => by injection e with e; omega), HC3.out.setT _, Kd.R_far HR3.out (fun k hk => by simp; omega) _, HTS3.out⟩ : Tl w (w13.setCell ⟨w.heap.size, 16384, none⟩ (.slice A9 (T ++ [(a1, (e2 : Int))]).length c9)) n8 rg b Cf Lf (T ++ [(a1, (e2 : Int))]) s2 (.slice A9 (T ++ [(a1, (e2 : Int))]).length c9) m1 a1)
                        rw [hlT] at HN0
                        have HN := Lib.hid HN0
                        clear HN0
                        clear t9 cf9 HC3 HRD3 HR3 HB3 k2 k4
                        go_wp2
                        go_roundw
                        case rel => exact ⟨T ++ [(a1, (e2 : Int))], a1, m1, s2, _, rfl, rfl, hm1l, by omega, by omega, ⟨HN.out⟩⟩
                        case measure => have := Hm1.out; simp [intOf]; omega
                      · have d3 := decide_eq_false (show ¬ (T.length : Int) ≤ 4096 by omega)
                        have HST := Lib.hid (HL2.out.ts.stop (.inr (.inr (by omega))))
                        obtain ⟨A9, c9, hv9, hc9, hC9⟩ := Kd.R_reads HL2.out.tk
                        first | subst hv9 | (have hv8 := hv9.symm; simp only [Value.slice.injEq, true_and] at hv8; obtain ⟨hv6, hv7⟩ := hv8; subst hv6 hv7; clear hv9)
                        have hFs := Lib.hid (show ∀ C L T', Pk b C L T' → C = Cf ∧ L = Lf ∧ T' = T from fun C L T' h => ⟨(HP3.out C L T' h).1, (HP3.out C L T' h).2.1, HST.out C L T' h⟩)
                        have hlen9 : T.length ≤ 1000000 := by omega
                        cases hm0 : mayB Cf Lf T with
                        | false =>
                          have hput := Lib.hid (pput_no _ _ _ _ A9 c9 _ HL2.out.ch hC9 HUC.out HUL.out (by omega) hm0)
                          have hF := Lib.hid (show ∀ C L T', ¬ Pk b C L T' from fun C L T' h => by
                            obtain ⟨rfl, rfl, rfl⟩ := hFs.out C L T' h
                            rw [h.may] at hm0
                            cases hm0)
                          clear hm0 hC9 hc9
                          go_wp2_with fail
                          refine hput.out.mono ?_; rintro e wp ⟨rfl, hbp⟩
                          have HBP := Lib.hid (below_step HL2.out.below hbp)
                          clear hbp hput
                          go_wp2
                          go_step3
                          go_wp2
                          simp only [Exit.jump]
                          go_ret2
                          exact ⟨.inl ⟨rfl, hF.out⟩, HBP.out⟩
                        | true =>
                          have hput := Lib.hid (pput_calls _ _ _ _ A9 c9 _ HL2.out.ch hC9 HUC.out HUL.out hlen9 hm0)
                          have hPB := Lib.hid (pack_bytes HUC.out HUL.out HL2.out.ch.lenC HL2.out.ch.lenL hm0)
                          have HM0 := Lib.hid hm0
                          have HTK := Lib.hid (show TK _ (.slice A9 T.length c9) T from ⟨A9, c9, rfl, hc9, hC9⟩)
                          clear hm0 hC9 hc9
                          go_wp2_with fail
                          refine hput.out.mono ?_; rintro e wp ⟨vp, rfl, hop, hbp⟩
                          obtain ⟨Ap, cp, rfl, hcp, hrp⟩ := OB.slice hop
                          have HLp := Lib.hid (HL2.out.under hbp)
                          have HTKp := Lib.hid (show TK wp (.slice A9 T.length c9) T from by
                            obtain ⟨A, c, e1, e2, e3⟩ := HTK.out
                            exact ⟨A, c, e1, e2, Kd.C_below e3 hbp⟩)
                          have heq := Lib.hid (equal_calls Ap (some ad) cp c (packB Cf Lf T) b wp hrp hcp (HR.out.below HLp.out.below) HC.out hPB.out HB.out)
                          clear hop hcp hrp hbp hput
                          go_wp2_with fail
                          refine heq.out.mono ?_; rintro e wq ⟨rfl, ⟨nq, rfl⟩⟩
                          by_cases hpb : packB Cf Lf T = b
                          · have hd9 : decide (packB Cf Lf T = b) = true := decide_eq_true hpb
                            have HPK := Lib.hid (⟨HLp.out.ch.lenC, HLp.out.ch.lenL, HUC.out, HUL.out, HM0.out, hpb⟩ : Pk b Cf Lf T)
                            clear hpb
                            go_wp2
                            simp only [Exit.jump]
                            go_ret2
                            exact ⟨.inr ⟨Cf, Lf, T, _, rfl, HLp.out.ch.below (pw_below_drewN (Below.refl _ _) _) HLp.out.ch.lt, (by
                              obtain ⟨A, c, e1, e2, e3⟩ := HTKp.out
                              exact ⟨A, c, e1, e2, Kd.C_below e3 (pw_below_drewN (Below.refl _ _) _)⟩), HPK.out⟩, pw_below_drewN HLp.out.below _⟩
                          · have hd9 : decide (packB Cf Lf T = b) = false := decide_eq_false hpb
                            have hF := Lib.hid (show ∀ C L T', ¬ Pk b C L T' from fun C L T' h => by
                              obtain ⟨rfl, rfl, rfl⟩ := hFs.out C L T' h
                              exact hpb h.eq)
                            clear hpb
                            go_wp2
                            go_step3
                            go_wp2
                            simp only [Exit.jump]
                            go_ret2
                            exact ⟨.inl ⟨rfl, hF.out⟩, pw_below_drewN HLp.out.below _⟩
                  · have d2 := decide_eq_false (show ¬ (0 : Int) < (m : Int) by omega)
                    obtain rfl : m = 0 := by omega
                    have HST := Lib.hid (HL.out.ts.stop (.inl rfl))
                    have HL2 := Lib.hid (HL.out.under (Below.refl _ _))
                    clear HL
                    obtain ⟨A9, c9, hv9, hc9, hC9⟩ := Kd.R_reads HL2.out.tk
                    first | subst hv9 | (have hv8 := hv9.symm; simp only [Value.slice.injEq, true_and] at hv8; obtain ⟨hv6, hv7⟩ := hv8; subst hv6 hv7; clear hv9)
                    have hFs := Lib.hid (show ∀ C L T', Pk b C L T' → C = Cf ∧ L = Lf ∧ T' = T from fun C L T' h => ⟨(HP3.out C L T' h).1, (HP3.out C L T' h).2.1, HST.out C L T' h⟩)
                    have hlen9 : T.length ≤ 1000000 := by omega
                    cases hm0 : mayB Cf Lf T with
                    | false =>
                      have hput := Lib.hid (pput_no _ _ _ _ A9 c9 _ HL2.out.ch hC9 HUC.out HUL.out (by omega) hm0)
                      have hF := Lib.hid (show ∀ C L T', ¬ Pk b C L T' from fun C L T' h => by
                        obtain ⟨rfl, rfl, rfl⟩ := hFs.out C L T' h
                        rw [h.may] at hm0
                        cases hm0)
                      clear hm0 hC9 hc9
                      go_wp2_with fail
                      refine hput.out.mono ?_; rintro e wp ⟨rfl, hbp⟩
                      have HBP := Lib.hid (below_step HL2.out.below hbp)
                      clear hbp hput
                      go_wp2
                      go_step3
                      go_wp2
                      simp only [Exit.jump]
                      go_ret2
                      exact ⟨.inl ⟨rfl, hF.out⟩, HBP.out⟩
                    | true =>
                      have hput := Lib.hid (pput_calls _ _ _ _ A9 c9 _ HL2.out.ch hC9 HUC.out HUL.out hlen9 hm0)
                      have hPB := Lib.hid (pack_bytes HUC.out HUL.out HL2.out.ch.lenC HL2.out.ch.lenL hm0)
                      have HM0 := Lib.hid hm0
                      have HTK := Lib.hid (show TK _ (.slice A9 T.length c9) T from ⟨A9, c9, rfl, hc9, hC9⟩)
                      clear hm0 hC9 hc9
                      go_wp2_with fail
                      refine hput.out.mono ?_; rintro e wp ⟨vp, rfl, hop, hbp⟩
                      obtain ⟨Ap, cp, rfl, hcp, hrp⟩ := OB.slice hop
                      have HLp := Lib.hid (HL2.out.under hbp)
                      have HTKp := Lib.hid (show TK wp (.slice A9 T.length c9) T from by
                        obtain ⟨A, c, e1, e2, e3⟩ := HTK.out
                        exact ⟨A, c, e1, e2, Kd.C_below e3 hbp⟩)
                      have heq := Lib.hid (equal_calls Ap (some ad) cp c (packB Cf Lf T) b wp hrp hcp (HR.out.below HLp.out.below) HC.out hPB.out HB.out)
                      clear hop hcp hrp hbp hput
                      go_wp2_with fail
                      refine heq.out.mono ?_; rintro e wq ⟨rfl, ⟨nq, rfl⟩⟩
                      by_cases hpb : packB Cf Lf T = b
                      · have hd9 : decide (packB Cf Lf T = b) = true := decide_eq_true hpb
                        have HPK := Lib.hid (⟨HLp.out.ch.lenC, HLp.out.ch.lenL, HUC.out, HUL.out, HM0.out, hpb⟩ : Pk b Cf Lf T)
                        clear hpb
                        go_wp2
                        simp only [Exit.jump]
                        go_ret2
                        exact ⟨.inr ⟨Cf, Lf, T, _, rfl, HLp.out.ch.below (pw_below_drewN (Below.refl _ _) _) HLp.out.ch.lt, (by
                          obtain ⟨A, c, e1, e2, e3⟩ := HTKp.out
                          exact ⟨A, c, e1, e2, Kd.C_below e3 (pw_below_drewN (Below.refl _ _) _)⟩), HPK.out⟩, pw_below_drewN HLp.out.below _⟩
                      · have hd9 : decide (packB Cf Lf T = b) = false := decide_eq_false hpb
                        have hF := Lib.hid (show ∀ C L T', ¬ Pk b C L T' from fun C L T' h => by
                          obtain ⟨rfl, rfl, rfl⟩ := hFs.out C L T' h
                          exact hpb h.eq)
                        clear hpb
                        go_wp2
                        go_step3
                        go_wp2
                        simp only [Exit.jump]
                        go_ret2
                        exact ⟨.inl ⟨rfl, hF.out⟩, pw_below_drewN HLp.out.below _⟩
end Go.Proofs.Ytkecppgodmbmlaa.PK

namespace Go.Proofs.Ytkecppgodmbmlaa.PK
open Go.RowKit Go.Proofs.YtkecppgodmbmlaaW.PrintWords Go.Proofs.YtkecppgodmbmlaaW.PrintLast Go.Proofs.YtkecppgodmbmlaaW.PrintMore Go.Proofs.Ytkecppgodmbmlaa.CD Go.Proofs.Ytkecppgodmbmlaa.BR
attribute [local go_sem] max2_int min2_int max_two min_two max_three min_three max_four min_four
set_option linter.unusedVariables false
set_option linter.unusedSimpArgs false
abbrev bw (W : World) (t : ByteArray) : World := Lib.bytesWorld W 5 t
theorem bytes_run (t : ByteArray) (W : World) : (convert 9 26 (.string t)).run Try.prog W = .ok (.slice (some ⟨W.heap.size, 0, none⟩) t.size (grownCap W t.size 0 5)) (bw W t) := print_bytes (P := Try.prog) 9 26 5 Try.underlying9 Try.underlying26 Try.underlying5 t W
theorem bw_below (W : World) (t : ByteArray) : Below W.heap.size W (bw W t) := bytes_below (Below.refl _ _) (Nat.le_refl _) 5 t
theorem bw_reads (W : World) (t : ByteArray) (ht : t.size ≤ 9223372036854775807) : ReadsInt (bw W t) .u8 (some ⟨W.heap.size, 0, none⟩) (bytesOf t).length (bytesOf t) := by
  rw [bytesOf_length]; exact bytes_reads W 5 t ht
theorem pgetstr_calls (s : ByteArray) (W : World) (hs : s.size ≤ 140737488355328) :
    Calls Try.prog 18 #[.slice (some ⟨W.heap.size, 0, none⟩) s.size (grownCap W s.size 0 5)] (bw W s) (GetsC (bytesOf s) (bw W s)) := by
  have h := pget_calls (some ⟨W.heap.size, 0, none⟩) (grownCap W s.size 0 5) (bytesOf s) (bw W s) (bw_reads W s (by omega)) (by rw [bytesOf_length]; exact grownCap_ge _ _ _ _) (BS.bytes_bytesOf s) (by rw [bytesOf_length]; exact hs)
  rw [bytesOf_length] at h
  exact h
theorem put_pk {b : List Int} {g : Nat} {C L T : List Pr} {v : Value} {w : World} (h : Chunk w g C L v) (hT : TK w v T) (hp : Pk b C L T) :
    Calls Try.prog 12 #[.pointer (some ⟨g, 0, none⟩)] w fun e w' => ∃ v, e = .returned (.tuple #[v, .int .i64 0]) ∧ OB w' w.heap.size v b ∧ Below w.heap.size w w' := by
  obtain ⟨A, c, rfl, hc, hk⟩ := hT
  have := pput_calls g C L T A c w h hk hp.u8C hp.u8L (by have := hp.few; omega) hp.may
  rw [hp.eq] at this
  exact this
end Go.Proofs.Ytkecppgodmbmlaa.PK

namespace Go.Proofs.Ytkecppgodmbmlaa.PK
open Go.RowKit Go.Proofs.YtkecppgodmbmlaaW.PrintWords Go.Proofs.YtkecppgodmbmlaaW.PrintLast Go.Proofs.YtkecppgodmbmlaaW.PrintMore Go.Proofs.Ytkecppgodmbmlaa.CD Go.Proofs.Ytkecppgodmbmlaa.BR
set_option linter.unusedVariables false
set_option linter.unusedSimpArgs false
theorem mapM_some {α β : Type} (f : α → Option β) (g : α → β) : ∀ (l : List α), (∀ x ∈ l, f x = some (g x)) → l.mapM f = some (l.map g)
  | [], _ => rfl
  | x :: l, h => by
    rw [List.mapM_cons, h x List.mem_cons_self, mapM_some f g l (fun y hy => h y (List.mem_cons_of_mem _ hy))]
    rfl
theorem lits_u8 (d : Nat) (a : Int) (ha : 0 ≤ a ∧ a < 256) : Try.prog.keyLits (d + 1) 5 [.int .u8 a] = some [.int .u8 a] := by
  unfold Program.keyLits
  rw [Try.underlying5]
  simp only
  rw [if_pos]
  refine ⟨trivial, ?_⟩
  simp [Lit.wf, IntKind.min, IntKind.max, IntKind.signed, IntKind.bits]
  omega
theorem cellsCell : Try.prog.cellsOf 34 = 2 := by kernel_rfl
theorem cellsLight : Try.prog.cellsOf 36 = 2 := by kernel_rfl
theorem cellsU8 : Try.prog.cellsOf 5 = 1 := by kernel_rfl
theorem cellsArrC : Try.prog.cellsOf 43 = 8192 := by kernel_rfl
theorem cellsArrL : Try.prog.cellsOf 44 = 8192 := by kernel_rfl
theorem lits_cell (p : Pr) (hp : (0 ≤ p.1 ∧ p.1 < 256) ∧ 0 ≤ p.2 ∧ p.2 < 256) : Try.prog.keyLits 2 34 [.int .u8 p.1, .int .u8 p.2] = some [.int .u8 p.1, .int .u8 p.2] := by
  unfold Program.keyLits
  rw [Try.underlying34]
  simp only
  rw [if_pos ⟨by rw [cellsCell]; rfl, by decide +kernel⟩, mapM_some _ (fun f => if f.offset = 0 then [.int .u8 p.1] else [.int .u8 p.2])]
  · rfl
  · intro f hf
    simp only [List.mem_cons, List.not_mem_nil, or_false] at hf
    rcases hf with rfl | rfl
    · simp only [cellsU8]
      exact lits_u8 0 p.1 hp.1
    · simp only [cellsU8]
      exact lits_u8 0 p.2 hp.2
theorem lits_light (p : Pr) (hp : (0 ≤ p.1 ∧ p.1 < 256) ∧ 0 ≤ p.2 ∧ p.2 < 256) : Try.prog.keyLits 2 36 [.int .u8 p.1, .int .u8 p.2] = some [.int .u8 p.1, .int .u8 p.2] := by
  unfold Program.keyLits
  rw [Try.underlying36]
  simp only
  rw [if_pos ⟨by rw [cellsLight]; rfl, by decide +kernel⟩, mapM_some _ (fun f => if f.offset = 0 then [.int .u8 p.1] else [.int .u8 p.2])]
  · rfl
  · intro f hf
    simp only [List.mem_cons, List.not_mem_nil, or_false] at hf
    rcases hf with rfl | rfl
    · simp only [cellsU8]
      exact lits_u8 0 p.1 hp.1
    · simp only [cellsU8]
      exact lits_u8 0 p.2 hp.2
def pairLits (C : List Pr) (i : Nat) : List Lit := [.int .u8 (C.getD i P0).1, .int .u8 (C.getD i P0).2]
theorem lits_arrC (C : List Pr) (hC : C.length = 4096) (hu : U8 C) : Try.prog.keyLits 3 43 (flat C) = some ((List.range 4096).map (pairLits C)).flatten := by
  unfold Program.keyLits
  rw [Try.underlying43]
  simp only
  rw [if_pos (by rw [flat_length, hC, cellsArrC]), cellsCell, mapM_some _ (pairLits C)]
  · rfl
  · intro i hi
    have hi := List.mem_range.1 hi
    rw [flat_pair C i (by omega)]
    exact lits_cell _ (hu.at_ i (by omega))
theorem lits_arrL (C : List Pr) (hC : C.length = 4096) (hu : U8 C) : Try.prog.keyLits 3 44 (flat C) = some ((List.range 4096).map (pairLits C)).flatten := by
  unfold Program.keyLits
  rw [Try.underlying44]
  simp only
  rw [if_pos (by rw [flat_length, hC, cellsArrL]), cellsLight, mapM_some _ (pairLits C)]
  · rfl
  · intro i hi
    have hi := List.mem_range.1 hi
    rw [flat_pair C i (by omega)]
    exact lits_light _ (hu.at_ i (by omega))
theorem eq_arrC (C : List Pr) (hC : C.length = 4096) (hu : U8 C) (W : World) : (Op.equalIn 10000 43 (.agg (flat C).toArray) (.agg (flat C).toArray)).run Try.prog W = .ok true W := by
  have hf : (Value.agg (flat C).toArray).formed Try.prog 43 = true := by
    simp [Value.formed, Try.underlying43, cellsArrC, flat_length, hC]
  obtain ⟨r, hr, hi⟩ := run_equalIn_deep (P := Try.prog) 9997 3 43 (by kernel_rfl) W 3 3 _ _ _ _ hf hf (lits_arrC C hC hu) (lits_arrC C hC hu)
  rw [hi.2 rfl] at hr
  exact hr
theorem eq_arrL (C : List Pr) (hC : C.length = 4096) (hu : U8 C) (W : World) : (Op.equalIn 10000 44 (.agg (flat C).toArray) (.agg (flat C).toArray)).run Try.prog W = .ok true W := by
  have hf : (Value.agg (flat C).toArray).formed Try.prog 44 = true := by
    simp [Value.formed, Try.underlying44, cellsArrL, flat_length, hC]
  obtain ⟨r, hr, hi⟩ := run_equalIn_deep (P := Try.prog) 9997 3 44 (by kernel_rfl) W 3 3 _ _ _ _ hf hf (lits_arrL C hC hu) (lits_arrL C hC hu)
  rw [hi.2 rfl] at hr
  exact hr
theorem chunk_rangeL {w : World} {g : Nat} {C L : List Pr} {v : Value} (h : Chunk w g C L v) : w.rangeAt g 8192 (flat L) := fun j u hu => by
  have hj := (List.getElem?_eq_some_iff.1 hu).1
  rw [flat_length, h.lenL] at hj
  rw [blk_cell h.blk, List.getElem?_toArray, cells_off C L v h.lenC h.lenL j (by omega)]
  exact hu
theorem exec_load {P : Program} {o : Oper} {ev : Operand → Value} {w : World} {ty : TypeId} {x : Operand} {pv v : Value} (ho : o.op = .load ty x) (hx : ev x = pv) (h : (Instr.loadAt ty pv).run P w = .ok v w) : (execOp ev o).run P w = .ok (.value v) w := by
  unfold execOp
  simp only [ho, hx, Sem.run_bind, Sem.run_pure, h, Result.andThen_ok]
theorem eq_tick (p q : Pr) (W : World) : (Op.equalIn 10000 48 (.agg #[.int .i64 p.1, .int .i64 p.2]) (.agg #[.int .i64 q.1, .int .i64 q.2])).run Try.prog W = .ok (p.1 == q.1 && (p.2 == q.2)) W := by
  refine eqA_of (d := 9999) Try.underlying48 (by kernel_rfl) ?_
  refine eqf_cons (by rfl) (by go_simp; rfl) (by go_simp; rfl) (by go_simp) ?_
  exact eqf_last (by rfl) (by go_simp; rfl) (by go_simp; rfl) (by go_simp)
set_option maxHeartbeats 2000000 in
set_option maxRecDepth 100000 in
theorem same_calls (g1 g2 : Nat) (C L T : List Pr) (v1 v2 : Value) (w : World) (h1 : Chunk w g1 C L v1) (h2 : Chunk w g2 C L v2) (hC : U8 C) (hL : U8 L) (k1 : TK w v1 T) (k2 : TK w v2 T) (hT : T.length ≤ 1000000) :
    Calls Try.prog 20 #[.pointer (some ⟨g1, 0, none⟩), .pointer (some ⟨g2, 0, none⟩)] w fun e w' => e = .returned (.bool true) ∧ Below w.heap.size w w' := by
  obtain ⟨A1, c1, rfl, hc1, hk1⟩ := k1
  obtain ⟨A2, c2, rfl, hc2, hk2⟩ := k2
  have H1 := Lib.hid h1
  have H2 := Lib.hid h2
  have HK1 := Lib.hid hk1
  have HK2 := Lib.hid hk2
  have q1 := eq_arrC C h1.lenC hC
  have q2 := eq_arrL L h1.lenL hL
  have q3 : Try.prog.eqGuardType Try.prog.depth 43 = false := by kernel_rfl
  have q4 : Try.prog.eqGuardType Try.prog.depth 44 = false := by kernel_rfl
  have r1 := chunk_range h1
  have r2 := chunk_range h2
  have r3 := chunk_rangeL h1
  have r4 := chunk_rangeL h2
  have t1 := h1.atT
  have t2 := h2.atT
  have n1 : (Try.prog.info? 43).map (·.size) = some (flat C).length := by rw [flat_length, h1.lenC]; kernel_rfl
  have n2 : (Try.prog.info? 44).map (·.size) = some (flat L).length := by rw [flat_length, h1.lenL]; kernel_rfl
  have d1 : TypeDesc.isRow (.array 4096 34) = true := rfl
  have hu1 := Try.underlying43
  have hu2 := Try.underlying44
  have j1 := run_loadAt_mid (P := Try.prog) w.drew g1 0 43 (flat C) _ r1 Try.underlying43 rfl n1
  have j2 := run_loadAt_mid (P := Try.prog) w.drew g2 0 43 (flat C) _ r2 Try.underlying43 rfl n1
  have j3 := run_loadAt_mid (P := Try.prog) w.drew g1 8192 44 (flat L) _ r3 Try.underlying44 rfl n2
  have j4 := run_loadAt_mid (P := Try.prog) w.drew g2 8192 44 (flat L) _ r4 Try.underlying44 rfl n2
  obtain ⟨cc, hcc⟩ : ∃ cc, flat C = cc := ⟨_, rfl⟩
  obtain ⟨ll, hll⟩ : ∃ ll, flat L = ll := ⟨_, rfl⟩
  rw [hcc] at q1 j1 j2
  rw [hll] at q2 j3 j4
  clear h1 h2 hk1 hk2 hcc hll hC hL r1 r2 r3 r4 n1 n2 hu1 hu2 d1
  go_enter Try.func20, Try.ntmps20
  go_wp2_with fail
  refine start_ (n := 33) (S := fun w' => (Instr.loadAt 43 (.pointer (some ⟨g1, 0, none⟩))).run Try.prog w' = .ok (.agg cc.toArray) w' ∧ (Instr.loadAt 43 (.pointer (some ⟨g2, 0, none⟩))).run Try.prog w' = .ok (.agg cc.toArray) w' ∧ (Instr.loadAt 44 (.pointer (some ⟨g1, 8192, none⟩))).run Try.prog w' = .ok (.agg ll.toArray) w' ∧ (Instr.loadAt 44 (.pointer (some ⟨g2, 8192, none⟩))).run Try.prog w' = .ok (.agg ll.toArray) w' ∧ w'.cell? ⟨g1, 16384, none⟩ = some (.slice A1 T.length c1) ∧ w'.cell? ⟨g2, 16384, none⟩ = some (.slice A2 T.length c2)) (ds := []) #[false, false, false, false, false, false, false, false, false, false, false, false, false, false, false, false, false, false, false, false, false, false, false, false, false, false, false, false, false, false, false, false, false] (by kernel_rfl) rfl rfl ⟨j1, j2, j3, j4, t1, t2⟩ (fun hHeld => ?_)
  refine pure_ (i := 0) (N := some 6) (v := ?_) (a' := ?_) #[true, false, false, false, false, false, false, false, false, false, false, false, false, false, false, false, false, false, false, false, false, false, false, false, false, false, false, false, false, false, false, false, false] rfl rfl (by kernel_rfl) (fun _ _ _ h => h) (Or.inl ⟨by rfl, ?_⟩) ?_ ?_
  rotate_left
  · intro w'
    go_simp
    with_reducible rfl
  rotate_left
  · simp only [Act.put, List.setIfInBounds_toArray, List.set_cons_zero, List.set_cons_succ, i64_w, i32_w]
    rfl
  refine pure_ (i := 1) (N := some 7) (v := ?_) (a' := ?_) #[true, true, false, false, false, false, false, false, false, false, false, false, false, false, false, false, false, false, false, false, false, false, false, false, false, false, false, false, false, false, false, false, false] rfl rfl (by kernel_rfl) (fun _ _ _ h => h) (Or.inl ⟨by rfl, ?_⟩) ?_ ?_
  rotate_left
  · intro w'
    go_simp
    with_reducible rfl
  rotate_left
  · simp only [Act.put, List.setIfInBounds_toArray, List.set_cons_zero, List.set_cons_succ, i64_w, i32_w]
    rfl
  refine pure_ (i := 2) (N := some 8) (v := ?_) (a' := ?_) #[true, true, true, false, false, false, false, false, false, false, false, false, false, false, false, false, false, false, false, false, false, false, false, false, false, false, false, false, false, false, false, false, false] rfl rfl (by kernel_rfl) (fun _ _ _ h => h) (Or.inl ⟨by rfl, ?_⟩) ?_ ?_
  rotate_left
  · intro w'
    go_simp
    with_reducible rfl
  rotate_left
  · simp only [Act.put, List.setIfInBounds_toArray, List.set_cons_zero, List.set_cons_succ, i64_w, i32_w]
    rfl
  refine pure_ (i := 4) (N := some 10) (v := ?_) (a' := ?_) #[true, true, true, false, true, false, false, false, false, false, false, false, false, false, false, false, false, false, false, false, false, false, false, false, false, false, false, false, false, false, false, false, false] rfl rfl (by kernel_rfl) (fun _ _ _ h => h) (Or.inl ⟨by rfl, ?_⟩) ?_ ?_
  rotate_left
  · intro w'
    go_simp
    with_reducible rfl
  rotate_left
  · simp only [Act.put, List.setIfInBounds_toArray, List.set_cons_zero, List.set_cons_succ, i64_w, i32_w]
    rfl
  refine pure_ (i := 5) (N := some 11) (v := ?_) (a' := ?_) #[true, true, true, false, true, true, false, false, false, false, false, false, false, false, false, false, false, false, false, false, false, false, false, false, false, false, false, false, false, false, false, false, false] rfl rfl (by kernel_rfl) (fun _ _ _ h => h) (Or.inl ⟨by rfl, ?_⟩) ?_ ?_
  rotate_left
  · intro w'
    go_simp
    with_reducible rfl
  rotate_left
  · simp only [Act.put, List.setIfInBounds_toArray, List.set_cons_zero, List.set_cons_succ, i64_w, i32_w]
    rfl
  refine pure_ (i := 6) (N := some 12) (v := ?_) (a' := ?_) #[true, true, true, false, true, true, true, false, false, false, false, false, false, false, false, false, false, false, false, false, false, false, false, false, false, false, false, false, false, false, false, false, false] rfl rfl (by kernel_rfl) (fun _ _ _ h => h) (Or.inl ⟨by rfl, ?_⟩) ?_ ?_
  rotate_left
  · intro w'
    go_simp
    with_reducible rfl
  rotate_left
  · simp only [Act.put, List.setIfInBounds_toArray, List.set_cons_zero, List.set_cons_succ, i64_w, i32_w]
    rfl
  refine take_ (i := 3) (N := some 9) (v := ?_) (a' := ?_) #[true, true, true, true, true, true, true, false, false, false, false, false, false, false, false, false, false, false, false, false, false, false, false, false, false, false, false, false, false, false, false, false, false] rfl rfl (by kernel_rfl) (fun _ _ _ h => h) (Or.inl ⟨by rfl, ?_⟩) hHeld ?_ ?_
  rotate_left
  · rintro w' ⟨s0, s1, s2, s3, s4, s5⟩
    refine (exec_load (pv := .pointer (some ⟨g1, 0, none⟩)) rfl rfl s0).trans ?_
    with_reducible rfl
  rotate_left
  · simp only [Act.put, List.setIfInBounds_toArray, List.set_cons_zero, List.set_cons_succ, i64_w, i32_w]
    rfl
  refine take_ (i := 7) (N := some 13) (v := ?_) (a' := ?_) #[true, true, true, true, true, true, true, true, false, false, false, false, false, false, false, false, false, false, false, false, false, false, false, false, false, false, false, false, false, false, false, false, false] rfl rfl (by kernel_rfl) (fun _ _ _ h => h) (Or.inl ⟨by rfl, ?_⟩) hHeld ?_ ?_
  rotate_left
  · rintro w' ⟨s0, s1, s2, s3, s4, s5⟩
    refine (exec_load (pv := .pointer (some ⟨g2, 0, none⟩)) rfl rfl s1).trans ?_
    with_reducible rfl
  rotate_left
  · simp only [Act.put, List.setIfInBounds_toArray, List.set_cons_zero, List.set_cons_succ, i64_w, i32_w]
    rfl
  refine pure_ (i := 8) (N := some 14) (v := ?_) (a' := ?_) #[true, true, true, true, true, true, true, true, true, false, false, false, false, false, false, false, false, false, false, false, false, false, false, false, false, false, false, false, false, false, false, false, false] rfl rfl (by kernel_rfl) (fun _ _ _ h => h) (Or.inl ⟨by rfl, ?_⟩) ?_ ?_
  rotate_left
  · intro w'
    go_simp
    with_reducible rfl
  rotate_left
  · simp only [Act.put, List.setIfInBounds_toArray, List.set_cons_zero, List.set_cons_succ, i64_w, i32_w]
    rfl
  refine pure_ (i := 9) (N := some 15) (v := ?_) (a' := ?_) #[true, true, true, true, true, true, true, true, true, true, false, false, false, false, false, false, false, false, false, false, false, false, false, false, false, false, false, false, false, false, false, false, false] rfl rfl (by kernel_rfl) (fun _ _ _ h => h) (Or.inl ⟨by rfl, ?_⟩) ?_ ?_
  rotate_left
  · intro w'
    go_simp
    with_reducible rfl
  rotate_left
  · simp only [Act.put, List.setIfInBounds_toArray, List.set_cons_zero, List.set_cons_succ, i64_w, i32_w]
    rfl
  refine pure_ (i := 10) (N := some 16) (v := ?_) (a' := ?_) #[true, true, true, true, true, true, true, true, true, true, true, false, false, false, false, false, false, false, false, false, false, false, false, false, false, false, false, false, false, false, false, false, false] rfl rfl (by kernel_rfl) (fun _ _ _ h => h) (Or.inl ⟨by rfl, ?_⟩) ?_ ?_
  rotate_left
  · intro w'
    go_simp
    with_reducible rfl
  rotate_left
  · simp only [Act.put, List.setIfInBounds_toArray, List.set_cons_zero, List.set_cons_succ, i64_w, i32_w]
    rfl
  refine pure_ (i := 11) (N := some 17) (v := ?_) (a' := ?_) #[true, true, true, true, true, true, true, true, true, true, true, true, false, false, false, false, false, false, false, false, false, false, false, false, false, false, false, false, false, false, false, false, false] rfl rfl (by kernel_rfl) (fun _ _ _ h => h) (Or.inl ⟨by rfl, ?_⟩) ?_ ?_
  rotate_left
  · intro w'
    go_simp
    with_reducible rfl
  rotate_left
  · simp only [Act.put, List.setIfInBounds_toArray, List.set_cons_zero, List.set_cons_succ, i64_w, i32_w]
    rfl
  refine pure_ (i := 12) (N := some 18) (v := ?_) (a' := ?_) #[true, true, true, true, true, true, true, true, true, true, true, true, true, false, false, false, false, false, false, false, false, false, false, false, false, false, false, false, false, false, false, false, false] rfl rfl (by kernel_rfl) (fun _ _ _ h => h) (Or.inl ⟨by rfl, ?_⟩) ?_ ?_
  rotate_left
  · intro w'
    go_simp
    with_reducible rfl
  rotate_left
  · simp only [Act.put, List.setIfInBounds_toArray, List.set_cons_zero, List.set_cons_succ, i64_w, i32_w]
    rfl
  refine pure_ (i := 14) (N := some 20) (v := ?_) (a' := ?_) #[true, true, true, true, true, true, true, true, true, true, true, true, true, false, true, false, false, false, false, false, false, false, false, false, false, false, false, false, false, false, false, false, false] rfl rfl (by kernel_rfl) (fun _ _ _ h => h) (Or.inl ⟨by rfl, ?_⟩) ?_ ?_
  rotate_left
  · intro w'
    go_simp
    with_reducible rfl
  rotate_left
  · simp only [Act.put, List.setIfInBounds_toArray, List.set_cons_zero, List.set_cons_succ, i64_w, i32_w]
    rfl
  refine pure_ (i := 15) (N := some 21) (v := ?_) (a' := ?_) #[true, true, true, true, true, true, true, true, true, true, true, true, true, false, true, true, false, false, false, false, false, false, false, false, false, false, false, false, false, false, false, false, false] rfl rfl (by kernel_rfl) (fun _ _ _ h => h) (Or.inl ⟨by rfl, ?_⟩) ?_ ?_
  rotate_left
  · intro w'
    go_simp
    with_reducible rfl
  rotate_left
  · simp only [Act.put, List.setIfInBounds_toArray, List.set_cons_zero, List.set_cons_succ, i64_w, i32_w]
    rfl
  refine pure_ (i := 16) (N := some 22) (v := ?_) (a' := ?_) #[true, true, true, true, true, true, true, true, true, true, true, true, true, false, true, true, true, false, false, false, false, false, false, false, false, false, false, false, false, false, false, false, false] rfl rfl (by kernel_rfl) (fun _ _ _ h => h) (Or.inl ⟨by rfl, ?_⟩) ?_ ?_
  rotate_left
  · intro w'
    go_simp
    with_reducible rfl
  rotate_left
  · simp only [Act.put, List.setIfInBounds_toArray, List.set_cons_zero, List.set_cons_succ, i64_w, i32_w]
    rfl
  refine take_ (i := 13) (N := some 19) (v := ?_) (a' := ?_) #[true, true, true, true, true, true, true, true, true, true, true, true, true, true, true, true, true, false, false, false, false, false, false, false, false, false, false, false, false, false, false, false, false] rfl rfl (by kernel_rfl) (fun _ _ _ h => h) (Or.inl ⟨by rfl, ?_⟩) hHeld ?_ ?_
  rotate_left
  · rintro w' ⟨s0, s1, s2, s3, s4, s5⟩
    refine (exec_load (pv := .pointer (some ⟨g1, 8192, none⟩)) rfl rfl s2).trans ?_
    with_reducible rfl
  rotate_left
  · simp only [Act.put, List.setIfInBounds_toArray, List.set_cons_zero, List.set_cons_succ, i64_w, i32_w]
    rfl
  refine take_ (i := 17) (N := some 23) (v := ?_) (a' := ?_) #[true, true, true, true, true, true, true, true, true, true, true, true, true, true, true, true, true, true, false, false, false, false, false, false, false, false, false, false, false, false, false, false, false] rfl rfl (by kernel_rfl) (fun _ _ _ h => h) (Or.inl ⟨by rfl, ?_⟩) hHeld ?_ ?_
  rotate_left
  · rintro w' ⟨s0, s1, s2, s3, s4, s5⟩
    refine (exec_load (pv := .pointer (some ⟨g2, 8192, none⟩)) rfl rfl s3).trans ?_
    with_reducible rfl
  rotate_left
  · simp only [Act.put, List.setIfInBounds_toArray, List.set_cons_zero, List.set_cons_succ, i64_w, i32_w]
    rfl
  refine pure_ (i := 18) (N := some 24) (v := ?_) (a' := ?_) #[true, true, true, true, true, true, true, true, true, true, true, true, true, true, true, true, true, true, true, false, false, false, false, false, false, false, false, false, false, false, false, false, false] rfl rfl (by kernel_rfl) (fun _ _ _ h => h) (Or.inl ⟨by rfl, ?_⟩) ?_ ?_
  rotate_left
  · intro w'
    go_simp
    with_reducible rfl
  rotate_left
  · simp only [Act.put, List.setIfInBounds_toArray, List.set_cons_zero, List.set_cons_succ, i64_w, i32_w]
    rfl
  refine pure_ (i := 19) (N := some 25) (v := ?_) (a' := ?_) #[true, true, true, true, true, true, true, true, true, true, true, true, true, true, true, true, true, true, true, true, false, false, false, false, false, false, false, false, false, false, false, false, false] rfl rfl (by kernel_rfl) (fun _ _ _ h => h) (Or.inl ⟨by rfl, ?_⟩) ?_ ?_
  rotate_left
  · intro w'
    go_simp
    with_reducible rfl
  rotate_left
  · simp only [Act.put, List.setIfInBounds_toArray, List.set_cons_zero, List.set_cons_succ, i64_w, i32_w]
    rfl
  refine pure_ (i := 20) (N := some 26) (v := ?_) (a' := ?_) #[true, true, true, true, true, true, true, true, true, true, true, true, true, true, true, true, true, true, true, true, true, false, false, false, false, false, false, false, false, false, false, false, false] rfl rfl (by kernel_rfl) (fun _ _ _ h => h) (Or.inl ⟨by rfl, ?_⟩) ?_ ?_
  rotate_left
  · intro w'
    go_simp
    with_reducible rfl
  rotate_left
  · simp only [Act.put, List.setIfInBounds_toArray, List.set_cons_zero, List.set_cons_succ, i64_w, i32_w]
    rfl
  refine pure_ (i := 21) (N := some 27) (v := ?_) (a' := ?_) #[true, true, true, true, true, true, true, true, true, true, true, true, true, true, true, true, true, true, true, true, true, true, false, false, false, false, false, false, false, false, false, false, false] rfl rfl (by kernel_rfl) (fun _ _ _ h => h) (Or.inl ⟨by rfl, ?_⟩) ?_ ?_
  rotate_left
  · intro w'
    go_simp
    with_reducible rfl
  rotate_left
  · simp only [Act.put, List.setIfInBounds_toArray, List.set_cons_zero, List.set_cons_succ, i64_w, i32_w]
    rfl
  refine pure_ (i := 22) (N := some 28) (v := ?_) (a' := ?_) #[true, true, true, true, true, true, true, true, true, true, true, true, true, true, true, true, true, true, true, true, true, true, true, false, false, false, false, false, false, false, false, false, false] rfl rfl (by kernel_rfl) (fun _ _ _ h => h) (Or.inl ⟨by rfl, ?_⟩) ?_ ?_
  rotate_left
  · intro w'
    go_simp
    with_reducible rfl
  rotate_left
  · simp only [Act.put, List.setIfInBounds_toArray, List.set_cons_zero, List.set_cons_succ, i64_w, i32_w]
    rfl
  refine pure_ (i := 23) (N := some 29) (v := ?_) (a' := ?_) #[true, true, true, true, true, true, true, true, true, true, true, true, true, true, true, true, true, true, true, true, true, true, true, true, false, false, false, false, false, false, false, false, false] rfl rfl (by kernel_rfl) (fun _ _ _ h => h) (Or.inl ⟨by rfl, ?_⟩) ?_ ?_
  rotate_left
  · intro w'
    go_simp
    with_reducible rfl
  rotate_left
  · simp only [Act.put, List.setIfInBounds_toArray, List.set_cons_zero, List.set_cons_succ, i64_w, i32_w]
    rfl
  refine pure_ (i := 26) (N := some 32) (v := ?_) (a' := ?_) #[true, true, true, true, true, true, true, true, true, true, true, true, true, true, true, true, true, true, true, true, true, true, true, true, false, false, true, false, false, false, false, false, false] rfl rfl (by kernel_rfl) (fun _ _ _ h => h) (Or.inl ⟨by rfl, ?_⟩) ?_ ?_
  rotate_left
  · intro w'
    go_simp
    with_reducible rfl
  rotate_left
  · simp only [Act.put, List.setIfInBounds_toArray, List.set_cons_zero, List.set_cons_succ, i64_w, i32_w]
    rfl
  refine pure_ (i := 27) (N := some 33) (v := ?_) (a' := ?_) #[true, true, true, true, true, true, true, true, true, true, true, true, true, true, true, true, true, true, true, true, true, true, true, true, false, false, true, true, false, false, false, false, false] rfl rfl (by kernel_rfl) (fun _ _ _ h => h) (Or.inl ⟨by rfl, ?_⟩) ?_ ?_
  rotate_left
  · intro w'
    go_simp
    with_reducible rfl
  rotate_left
  · simp only [Act.put, List.setIfInBounds_toArray, List.set_cons_zero, List.set_cons_succ, i64_w, i32_w]
    rfl
  refine pure_ (i := 28) (N := some 34) (v := ?_) (a' := ?_) #[true, true, true, true, true, true, true, true, true, true, true, true, true, true, true, true, true, true, true, true, true, true, true, true, false, false, true, true, true, false, false, false, false] rfl rfl (by kernel_rfl) (fun _ _ _ h => h) (Or.inl ⟨by rfl, ?_⟩) ?_ ?_
  rotate_left
  · intro w'
    go_simp
    with_reducible rfl
  rotate_left
  · simp only [Act.put, List.setIfInBounds_toArray, List.set_cons_zero, List.set_cons_succ, i64_w, i32_w]
    rfl
  refine take_ (i := 24) (N := some 30) (v := ?_) (a' := ?_) #[true, true, true, true, true, true, true, true, true, true, true, true, true, true, true, true, true, true, true, true, true, true, true, true, true, false, true, true, true, false, false, false, false] rfl rfl (by kernel_rfl) (fun _ _ _ h => h) (Or.inl ⟨by rfl, ?_⟩) hHeld ?_ ?_
  rotate_left
  · rintro w' ⟨s0, s1, s2, s3, s4, s5⟩
    go_simp
    with_reducible rfl
  rotate_left
  · simp only [Act.put, List.setIfInBounds_toArray, List.set_cons_zero, List.set_cons_succ, i64_w, i32_w]
    rfl
  refine pure_ (i := 25) (N := some 31) (v := ?_) (a' := ?_) #[true, true, true, true, true, true, true, true, true, true, true, true, true, true, true, true, true, true, true, true, true, true, true, true, true, true, true, true, true, false, false, false, false] rfl rfl (by kernel_rfl) (fun _ _ _ h => h) (Or.inl ⟨by rfl, ?_⟩) ?_ ?_
  rotate_left
  · intro w'
    go_simp
    with_reducible rfl
  rotate_left
  · simp only [Act.put, List.setIfInBounds_toArray, List.set_cons_zero, List.set_cons_succ, i64_w, i32_w]
    rfl
  refine take_ (i := 29) (N := some 35) (v := ?_) (a' := ?_) #[true, true, true, true, true, true, true, true, true, true, true, true, true, true, true, true, true, true, true, true, true, true, true, true, true, true, true, true, true, true, false, false, false] rfl rfl (by kernel_rfl) (fun _ _ _ h => h) (Or.inl ⟨by rfl, ?_⟩) hHeld ?_ ?_
  rotate_left
  · rintro w' ⟨s0, s1, s2, s3, s4, s5⟩
    go_simp
    with_reducible rfl
  rotate_left
  · simp only [Act.put, List.setIfInBounds_toArray, List.set_cons_zero, List.set_cons_succ, i64_w, i32_w]
    rfl
  refine pure_ (i := 30) (N := some 36) (v := ?_) (a' := ?_) #[true, true, true, true, true, true, true, true, true, true, true, true, true, true, true, true, true, true, true, true, true, true, true, true, true, true, true, true, true, true, true, false, false] rfl rfl (by kernel_rfl) (fun _ _ _ h => h) (Or.inl ⟨by rfl, ?_⟩) ?_ ?_
  rotate_left
  · intro w'
    go_simp
    with_reducible rfl
  rotate_left
  · simp only [Act.put, List.setIfInBounds_toArray, List.set_cons_zero, List.set_cons_succ, i64_w, i32_w]
    rfl
  refine pure_ (i := 31) (N := some 37) (v := ?_) (a' := ?_) #[true, true, true, true, true, true, true, true, true, true, true, true, true, true, true, true, true, true, true, true, true, true, true, true, true, true, true, true, true, true, true, true, false] rfl rfl (by kernel_rfl) (fun _ _ _ h => h) (Or.inl ⟨by rfl, ?_⟩) ?_ ?_
  rotate_left
  · intro w'
    go_simp
    with_reducible rfl
  rotate_left
  · simp only [Act.put, List.setIfInBounds_toArray, List.set_cons_zero, List.set_cons_succ, i64_w, i32_w]
    rfl
  refine pure_ (i := 32) (N := some 38) (v := ?_) (a' := ?_) #[true, true, true, true, true, true, true, true, true, true, true, true, true, true, true, true, true, true, true, true, true, true, true, true, true, true, true, true, true, true, true, true, true] rfl rfl (by kernel_rfl) (fun _ _ _ h => h) (Or.inl ⟨by rfl, ?_⟩) ?_ ?_
  rotate_left
  · intro w'
    go_simp
    with_reducible rfl
  rotate_left
  · simp only [Act.put, List.setIfInBounds_toArray, List.set_cons_zero, List.set_cons_succ, i64_w, i32_w]
    rfl
  refine done_ (by kernel_rfl) ?_
  clear j1 j2 j3 j4 q1 q2 q3 q4 t1 t2 hHeld
  go_wp2
  go_loopw [5] (fun iv W => ∃ j : Nat, j ≤ T.length ∧ iv = .int .i64 (j : Int) ∧ Aside0 (Below w.heap.size w W)) (fun iv _ => T.length - (intOf iv).toNat)
  case atStart => exact ⟨0, by omega, rfl, ⟨below_drew (Below.refl _ _)⟩⟩
  case round =>
    obtain ⟨j, hj, rfl, ⟨hb⟩⟩ := hrel
    have HB := Lib.hid hb
    have t1 := (H1.out.below hb H1.out.lt).atT
    have t2 := (H2.out.below hb H2.out.lt).atT
    by_cases hlt : j < T.length
    · have d1 := decide_eq_true (show (j : Int) < (T.length : Int) by omega)
      obtain ⟨ad1, rfl, s0, s1⟩ := tick_at (Kd.C_below HK1.out hb) j hlt
      obtain ⟨ad2, rfl, s2, s3⟩ := tick_at (Kd.C_below HK2.out hb) j hlt
      obtain ⟨⟨ta, td⟩, hti⟩ : ∃ q, T.getD j P0 = q := ⟨_, rfl⟩
      rw [hti] at s0 s1 s2 s3
      have q5 := fun W => (eq_tick (ta, td) (ta, td) W).trans (by rw [beq_self_eq_true, beq_self_eq_true]; rfl : _ = Result.ok true W)
      have q6 : Try.prog.eqGuardType Try.prog.depth 48 = false := by kernel_rfl
      have p1 : (0 ≤ (j : Int)) = True := eq_true (by omega)
      have p2 : ((j : Int) < (T.length : Int)) = True := eq_true (by omega)
      have p3 : (0 : Int) ≤ (j : Int) := by omega
      have p4 : (j : Int) < (T.length : Int) := by omega
      clear hb hti
      go_wp2_with fail
      go_quiet (fail)
      go_wp2
      go_roundw
      case rel => exact ⟨j + 1, by omega, by go_num, ⟨by repeat (first | exact HB.out | apply below_drew | apply pw_below_drewN)⟩⟩
      case measure => simp [intOf]; omega
    · have d1 := decide_eq_false (show ¬ (j : Int) < (T.length : Int) by omega)
      clear hb
      go_wp2
      go_ret
      exact ⟨rfl, HB.out⟩
end Go.Proofs.Ytkecppgodmbmlaa.PK

namespace Go.Proofs.Ytkecppgodmbmlaa.PK
open Go.Proofs.Ytkecppgodmbmlaa.CD
set_option linter.unusedVariables false
theorem fillN_all (x : Pr) : ∀ (m : Nat) (l : List Pr), m ≤ l.length → fillN 0 x m l = List.replicate m x ++ l.drop m
  | 0, l, _ => rfl
  | m + 1, l, h => by
    rw [fillN, fillN_all x m l (by omega), List.set_append_right _ _ (by rw [List.length_replicate]; omega), List.length_replicate, List.replicate_succ', List.append_assoc, Nat.zero_add, Nat.sub_self, List.drop_eq_getElem_cons (by omega : m < l.length)]
    rfl
theorem steps_rep (P : List Pr) (p : Pr) (j : Nat) (h : lk 0 P p = some j) : ∀ (n : Nat) (cs : List Int), (List.replicate n p).foldl stepP (P, cs) = (P, cs ++ List.replicate n (j : Int))
  | 0, cs => by simp
  | n + 1, cs => by
    rw [List.replicate_succ, List.foldl_cons, show stepP (P, cs) p = (P, cs ++ [(j : Int)]) by unfold stepP; rw [h], steps_rep P p j h n, List.append_assoc]
    rfl
end Go.Proofs.Ytkecppgodmbmlaa.PK

namespace Go.Proofs.Ytkecppgodmbmlaa.PK
open Go.Proofs.Ytkecppgodmbmlaa.CD Go.Proofs.Ytkecppgodmbmlaa.BR
set_option linter.unusedVariables false
def knownC : List Pr := air.set 0 (2, 0)
def knownL : List Pr := (List.replicate 4096 ((15, 0) : Pr)).set 0 (0, 0)
def knownT : List Pr := [(0, 1), (2, 300)]
theorem known_may : mayB knownC knownL knownT = true := by
  unfold knownC knownL
  rw [may_set air (List.replicate 4096 (15, 0)) knownT [] air_len List.length_replicate (may_rep P0 (15, 0) (by decide +kernel) (by decide)) 0 (by decide)]
  decide +kernel
theorem known_bytes : packB knownC knownL knownT = [2, 2, 0, 0, 0, 1, 0, 255, 31, 1, 1, 0, 255, 31, 240, 2, 0, 1, 1, 172, 2] := by
  have hC : knownC = ((2, 0) : Pr) :: P0 :: List.replicate 4094 P0 := rfl
  have h1 : codes knownC = ([(2, 0), P0], (0 : Int) :: List.replicate 4095 1) := by
    rw [hC]
    unfold codes
    rw [List.foldl_cons, List.foldl_cons]
    have e : stepP (stepP ([], []) (2, 0)) P0 = ([(2, 0), P0], [0, 1]) := by decide +kernel
    rw [e, steps_rep [(2, 0), P0] P0 1 (by decide +kernel)]
    rfl
  have h2 : knownL.map lcode = (0 : Int) :: List.replicate 4095 240 := by
    have : knownL = ((0, 0) : Pr) :: List.replicate 4095 (15, 0) := rfl
    rw [this, List.map_cons, List.map_replicate]
    rfl
  have row2 : ∀ (x y : Int), x ≠ y → RU.row (x :: List.replicate 4095 y) = [1, x, 255, 31, y] := by
    intro x y hxy
    have h := RU.runs_flat [(1, x), (4095, y)] none ⟨by decide, by simp, by decide, by simp [hxy], trivial⟩
    have e : RU.flat [(1, x), (4095, y)] = x :: List.replicate 4095 y := by
      rw [RU.flat, List.flatMap_cons, List.flatMap_cons, List.flatMap_nil, List.append_nil]
      rfl
    rw [e] at h
    unfold RU.row
    rw [h]
    have e1 : num 1 = [1] := by decide +kernel
    have e2 : num 4095 = [255, 31] := by decide +kernel
    simp [RU.rBytes, e1, e2]
  rw [packB_parts, h1, h2, row2 0 1 (by decide), row2 0 240 (by decide)]
  decide +kernel
theorem known_u8 : U8 knownC ∧ U8 knownL := by
  refine ⟨u8_set air_u8 0 _ (by decide), u8_set (fun p hp => ?_) 0 _ (by decide)⟩
  obtain ⟨_, rfl⟩ := List.mem_replicate.1 hp
  decide
theorem known_pk : Pk (packB knownC knownL knownT) knownC knownL knownT :=
  ⟨by unfold knownC; rw [List.length_set, air_len], by unfold knownL; rw [List.length_set, List.length_replicate], known_u8.1, known_u8.2, known_may, rfl⟩
theorem row_zero : RU.row (List.replicate 4096 0) = [128, 32, 0] := by
  rw [row_rep 4095 0, show num (4095 + 1) = [128, 32] by decide +kernel]; rfl
theorem pk_like (k : Nat) (pal x : List Int) {C L T : List Pr} (hp : pal.length = 2 * k) (h : Pk ((k : Int) :: (pal ++ ([128, 32, 0] ++ ([128, 32, 0] ++ x)))) C L T) :
    pBytes (codes C).1 = pal ∧ (codes C).2 = List.replicate 4096 0 ∧ num T.length ++ tBytes (-1) T = x := by
  obtain ⟨j, e, hj, _⟩ := h.head
  injection e with e1 e2
  have hkj : k = j := by omega
  obtain ⟨p1, p2⟩ := List.append_inj e2 (by rw [hp, pBytes_len]; omega)
  unfold tailC tailL at p2
  rw [← row_zero] at p2
  obtain ⟨c1, c2⟩ := row_same List.length_replicate (by rw [codes_len, h.lenC]) p2
  rw [row_zero, ← row_zero] at c2
  obtain ⟨d1, d2⟩ := row_same List.length_replicate (by rw [List.length_map, h.lenL]) c2
  exact ⟨p1.symm, c1.symm, d2.symm⟩
def badL : List (List Int) := [[], [0], [1, 0, 0, 128, 32, 0, 128, 32, 0, 1], [1, 0, 0, 128, 32, 0, 128, 32, 0, 0, 0], [1, 0, 0, 128, 32, 0, 128, 32, 0], [1, 15, 0, 128, 32, 0, 128, 32, 0, 0], [2, 0, 0, 0, 0, 128, 32, 0, 128, 32, 0, 0], [2, 0, 0, 2, 0, 128, 32, 0, 128, 32, 0, 0], [1, 0, 0, 128, 32, 0, 128, 32, 0, 1, 0, 0], [1, 0, 0, 128, 32, 0, 128, 32, 0, 1, 128, 32, 1]]
theorem tick_len (T : List Pr) (x : List Int) (n : Nat) (y : List Int) (hT : T.length ≤ 4096) (hn : n < 4096) (h : num T.length ++ tBytes (-1) T = x) (hx : x = num n ++ y) : T.length = n ∧ tBytes (-1) T = y := by
  rw [hx] at h
  exact num_same (by omega) (by omega) h
theorem one_tick {T : List Pr} (h : T.length = 1) : ∃ t, T = [t] := by
  match T, h with
  | [t], _ => exact ⟨t, rfl⟩
theorem bad_none : ∀ b ∈ badL, ∀ C L T, ¬ Pk b C L T := by
  intro b hb C L T h
  have n0 : num 0 = [0] := by decide +kernel
  have n1 : num 1 = [1] := by decide +kernel
  have n4 : num 4096 = [128, 32] := by decide +kernel
  have hfew := h.few
  have htk := may_tick h.may
  simp only [badL, List.mem_cons, List.not_mem_nil, or_false] at hb
  rcases hb with rfl | rfl | rfl | rfl | rfl | rfl | rfl | rfl | rfl | rfl
  · obtain ⟨k, e, _⟩ := h.head
    cases e
  · obtain ⟨k, e, _, h1, _⟩ := h.head
    injection e with e1 _
    omega
  · obtain ⟨_, _, hx⟩ := pk_like 1 [0, 0] [1] rfl h
    obtain ⟨hl, ht⟩ := tick_len T [1] 1 [] hfew (by decide) hx (by rw [n1]; rfl)
    obtain ⟨t, rfl⟩ := one_tick hl
    have := congrArg List.length ht
    have hp := num_pos (t.1 - (-1) - 1).toNat
    simp only [tBytes, List.length_append, List.length_nil] at this
    omega
  · obtain ⟨_, _, hx⟩ := pk_like 1 [0, 0] [0, 0] rfl h
    obtain ⟨hl, ht⟩ := tick_len T [0, 0] 0 [0] hfew (by decide) hx (by rw [n0]; rfl)
    obtain rfl := List.length_eq_zero_iff.1 hl
    cases ht
  · obtain ⟨_, _, hx⟩ := pk_like 1 [0, 0] [] rfl h
    have := congrArg List.length hx
    have hp := num_pos T.length
    rw [List.length_append, List.length_nil] at this
    omega
  · obtain ⟨hp, _, _⟩ := pk_like 1 [15, 0] [0] rfl h
    have hP : (codes C).1 = [((15, 0) : Pr)] := pBytes_inj _ _ (by rw [hp]; rfl)
    have hm := (codes_nodup C).2 (15, 0) (by rw [hP]; simp)
    have := h.mayC _ hm
    revert this
    decide +kernel
  · obtain ⟨hp, _, _⟩ := pk_like 2 [0, 0, 0, 0] [0] rfl h
    have hP : (codes C).1 = [((0, 0) : Pr), (0, 0)] := pBytes_inj _ _ (by rw [hp]; rfl)
    have hn := (codes_nodup C).1
    rw [hP] at hn
    simp at hn
  · obtain ⟨hp, hc, _⟩ := pk_like 2 [0, 0, 2, 0] [0] rfl h
    have hP : (codes C).1 = [((0, 0) : Pr), (2, 0)] := pBytes_inj _ _ (by rw [hp]; rfl)
    have hm := (codes_nodup C).2 (2, 0) (by rw [hP]; simp)
    rw [← (codes_mean C).1, hc, hP, List.map_replicate] at hm
    have := (List.mem_replicate.1 hm).2
    revert this
    decide +kernel
  · obtain ⟨_, _, hx⟩ := pk_like 1 [0, 0] [1, 0, 0] rfl h
    obtain ⟨hl, ht⟩ := tick_len T [1, 0, 0] 1 [0, 0] hfew (by decide) hx (by rw [n1]; rfl)
    obtain ⟨t, rfl⟩ := one_tick hl
    obtain ⟨⟨a, b⟩, ⟨c, d⟩, _⟩ := tOk_cons htk
    simp only [tBytes] at ht
    obtain ⟨_, ht⟩ := num_same (n := 0) (y := [0]) (by omega) (by decide) (ht.trans (by rw [n0]; rfl))
    obtain ⟨h2, _⟩ := num_same (n := 0) (y := []) (by omega) (by decide) (ht.trans (by rw [n0]; rfl))
    omega
  · obtain ⟨_, _, hx⟩ := pk_like 1 [0, 0] [1, 128, 32, 1] rfl h
    obtain ⟨hl, ht⟩ := tick_len T [1, 128, 32, 1] 1 [128, 32, 1] hfew (by decide) hx (by rw [n1]; rfl)
    obtain ⟨t, rfl⟩ := one_tick hl
    obtain ⟨⟨a, b⟩, ⟨c, d⟩, _⟩ := tOk_cons htk
    simp only [tBytes] at ht
    obtain ⟨h1, _⟩ := num_same (n := 4096) (y := [1]) (by omega) (by decide) (ht.trans (by rw [n4]; rfl))
    omega
end Go.Proofs.Ytkecppgodmbmlaa.PK

namespace Go.Proofs.Ytkecppgodmbmlaa.BR
open Go.ChangeShapes Go.WideShapes Go.Deep Go.RowKit Go.Proofs.YtkecppgodmbmlaaW.PrintWords Go.Proofs.YtkecppgodmbmlaaW.PrintLast Go.Proofs.YtkecppgodmbmlaaW.PrintMore
set_option linter.unusedVariables false
set_option linter.unusedSimpArgs false
section
variable {H : Type} {enc : TypeId × Value → H} {P : Program} {w : World} {base : Nat} {spare : Nat → Bool} {held : Bool}
end
theorem at_field (a : Addr) (i k : Nat) (hk : 0 < k) : a.add (i + k) = ⟨(a.add i).block, (a.add i).off + k, none⟩ := by
  unfold Addr.add
  rw [if_neg (by omega)]
  split
  · subst_vars; simp
  · simp [Nat.add_assoc]
def Pairs (w : World) (A : Option Addr) (n : Nat) (xs : List (Int × Int)) : Prop :=
  xs.length = n ∧ (0 < n → ∃ ad, A = some ad ∧ ∀ j, j < n → w.cell? (ad.add (j * 2)) = some (.int .i64 (xs.getD j (0, 0)).1) ∧ w.cell? (ad.add (j * 2 + 1)) = some (.int .i64 (xs.getD j (0, 0)).2)) ∧
    ∀ j, j < n → ((-9223372036854775808 ≤ (xs.getD j (0, 0)).1 ∧ (xs.getD j (0, 0)).1 ≤ 9223372036854775807) ∧ -9223372036854775808 ≤ (xs.getD j (0, 0)).2 ∧ (xs.getD j (0, 0)).2 ≤ 9223372036854775807)
theorem Pairs.below {w w1 : World} {A : Option Addr} {n : Nat} {xs : List (Int × Int)} (h : Pairs w A n xs) (hb : Below w.heap.size w w1) : Pairs w1 A n xs :=
  ⟨h.1, fun hn => by
    obtain ⟨ad, e, hc⟩ := h.2.1 hn
    exact ⟨ad, e, fun j hj => ⟨pw_cell_below hb (hc j hj).1, pw_cell_below hb (hc j hj).2⟩⟩, h.2.2⟩
end Go.Proofs.Ytkecppgodmbmlaa.BR

namespace Go.Proofs.Ytkecppgodmbmlaa.PK
open Go.RowKit Go.Proofs.YtkecppgodmbmlaaW.PrintWords Go.Proofs.YtkecppgodmbmlaaW.PrintLast Go.Proofs.YtkecppgodmbmlaaW.PrintMore Go.Proofs.Ytkecppgodmbmlaa.CD Go.Proofs.Ytkecppgodmbmlaa.BR
set_option linter.unusedVariables false
set_option linter.unusedSimpArgs false
theorem TK.below {w w' : World} {v : Value} {T : List Pr} (h : TK w v T) (hb : Below w.heap.size w w') : TK w' v T := by
  obtain ⟨A, c, e1, e2, e3⟩ := h
  exact ⟨A, c, e1, e2, Kd.C_below e3 hb⟩
end Go.Proofs.Ytkecppgodmbmlaa.PK

namespace Go.Proofs.Ytkecppgodmbmlaa.PK
open Go.RowKit Go.Proofs.YtkecppgodmbmlaaW.PrintWords Go.Proofs.YtkecppgodmbmlaaW.PrintLast Go.Proofs.YtkecppgodmbmlaaW.PrintMore Go.Proofs.Ytkecppgodmbmlaa.CD Go.Proofs.Ytkecppgodmbmlaa.BR
set_option linter.unusedVariables false
set_option linter.unusedSimpArgs false
def flatTK (l : List Pr) : List Value := l.flatMap fun p => [.int .i64 p.1, .int .i64 p.2]
theorem flatT_atK : ∀ (l : List Pr) (i : Nat) (p : Pr), l[i]? = some p → (flatTK l)[i * 2]? = some (.int .i64 p.1) ∧ (flatTK l)[i * 2 + 1]? = some (.int .i64 p.2)
  | q :: l, 0, p, h => by
    obtain rfl : q = p := by simpa using h
    exact ⟨rfl, rfl⟩
  | q :: l, i + 1, p, h => by
    have ih := flatT_atK l i p (by simpa using h)
    have e : flatTK (q :: l) = .int .i64 q.1 :: .int .i64 q.2 :: flatTK l := by unfold flatTK; rw [List.flatMap_cons]; rfl
    rw [e, show (i + 1) * 2 = i * 2 + 1 + 1 by omega, List.getElem?_cons_succ, List.getElem?_cons_succ, List.getElem?_cons_succ, List.getElem?_cons_succ]
    exact ih
theorem ticks_blkK (W : World) (b : Nat) (T : List Pr) (t : TypeId) (h : W.heap[b]? = some (.cells (flatTK T).toArray t (0, 0))) (hl : T.length ≤ 1000000) : TK W (.slice (some ⟨b, 0, none⟩) T.length T.length) T :=
  ⟨_, T.length, rfl, Nat.le_refl _, rfl, by omega, fun _ => ⟨_, rfl, fun j p hj => ⟨[.int .i64 p.1, .int .i64 p.2], rfl, ⟨[_], [_], rfl, rfl, rfl⟩, fun i u hu => by
    have hf := flatT_atK T j p hj
    have hc : ∀ k, W.cell? ⟨b, k, none⟩ = (flatTK T)[k]? := fun k => by rw [blk_cell h, List.getElem?_toArray]
    match i, hu with
    | 0, hu =>
      obtain rfl : Value.int .i64 p.1 = u := by simpa using hu
      have := (hc (j * 2)).trans hf.1
      show W.cell? (Addr.add _ (j * 2)) = _
      rw [add_at, Nat.zero_add]
      exact this
    | 1, hu =>
      obtain rfl : Value.int .i64 p.2 = u := by simpa using hu
      have := (hc (j * 2 + 1)).trans hf.2
      show W.cell? (Addr.add _ (j * 2 + 1)) = _
      rw [add_at, Nat.zero_add]
      exact this
    | i + 2, hu => simp at hu⟩⟩⟩
theorem set_ticksK {w : World} {g : Nat} {C L : List Pr} {v : Value} (h : Chunk w g C L v) (T : List Pr) (hl : T.length ≤ 1000000) (t : TypeId) (n : Nat) (hn : n = T.length) (cs : Array Value) (hcs : cs = (flatTK T).toArray) :
    Chunk ((w.setCell ⟨g, 16384, none⟩ (.slice (some ⟨w.heap.size, 0, none⟩) n n)).alloc (.cells cs t)) g C L (.slice (some ⟨w.heap.size, 0, none⟩) n n) ∧ TK ((w.setCell ⟨g, 16384, none⟩ (.slice (some ⟨w.heap.size, 0, none⟩) n n)).alloc (.cells cs t)) (.slice (some ⟨w.heap.size, 0, none⟩) n n) T := by
  subst hn hcs
  refine ⟨(h.setT _).below (below_alloc (Below.refl _ _) _) (h.setT _).lt, ticks_blkK _ _ T t ?_ hl⟩
  have := blk_new (w.setCell ⟨g, 16384, none⟩ (.slice (some ⟨w.heap.size, 0, none⟩) T.length T.length)) (.cells (flatTK T).toArray t)
  rw [World.size_setCell] at this
  exact this
def badS : List ByteArray := [({ data := #[] } : ByteArray), ({ data := #[0] } : ByteArray), (({ data := #[1, 0, 0, 128, 32, 0, 128, 32, 0] } : ByteArray) ++ { data := #[1] }), (({ data := #[1, 0, 0, 128, 32, 0, 128, 32, 0] } : ByteArray) ++ { data := #[0, 0] }), ({ data := #[1, 0, 0, 128, 32, 0, 128, 32, 0] } : ByteArray), (({ data := #[1, 15] } : ByteArray) ++ ({ data := #[1, 0, 0, 128, 32, 0, 128, 32, 0] } : ByteArray).extract 2 9 ++ { data := #[0] }), (({ data := #[2, 0, 0, 0, 0] } : ByteArray) ++ ({ data := #[1, 0, 0, 128, 32, 0, 128, 32, 0] } : ByteArray).extract 3 9 ++ { data := #[0] }), (({ data := #[2, 0, 0, 2, 0] } : ByteArray) ++ ({ data := #[1, 0, 0, 128, 32, 0, 128, 32, 0] } : ByteArray).extract 3 9 ++ { data := #[0] }), (({ data := #[1, 0, 0, 128, 32, 0, 128, 32, 0] } : ByteArray) ++ { data := #[1, 0, 0] }), (({ data := #[1, 0, 0, 128, 32, 0, 128, 32, 0] } : ByteArray) ++ { data := #[1, 128, 32, 1] })]
theorem badS_bytes : ∀ j < 10, bytesOf (badS.getD j ByteArray.empty) = badL.getD j [] := by decide +kernel
theorem badS_size : ∀ j < 10, (badS.getD j ByteArray.empty).size ≤ 100 := by decide +kernel
theorem badS_none (j : Nat) (hj : j < 10) : ∀ C L T, ¬ Pk (bytesOf (badS.getD j ByteArray.empty)) C L T := by
  rw [badS_bytes j hj]
  refine bad_none _ ?_
  rw [List.getD_eq_getElem?_getD, List.getElem?_eq_getElem (show j < badL.length from hj)]
  exact List.getElem_mem _
theorem badS_at (j : Nat) (hj : j < 10) : (badS.map Value.string).toArray[j]? = some (.string (badS.getD j ByteArray.empty)) := by
  rw [List.getElem?_toArray, List.getElem?_map, List.getD_eq_getElem?_getD, List.getElem?_eq_getElem (show j < badS.length from hj)]
  rfl
structure Bl (w W : World) (b : Nat) : Prop where
  below : Below w.heap.size w W
  blk : W.heap[b]? = some (.cells (badS.map Value.string).toArray 9 (0, 0))
structure Kl (w W : World) (i : Nat) : Prop where
  below : Below w.heap.size w W
  ch : Chunk W w.heap.size air (fillN 0 (15, 0) i air) (.slice none 0 0)
set_option maxHeartbeats 4000000 in
set_option maxRecDepth 100000 in
theorem knownLaw (w : World) : Calls Try.prog 10 #[] w fun e w' => e = .returned (.bool true) ∧ Below w.heap.size w w' := by
  have hbu := run_zero
  have hbo := run_box
  have hbd := run_build
  go_enter Try.func10, Try.ntmps10
  go_wp2
  clear hbu hbo hbd
  generalize Value.agg zero = u14
  go_loopw [2] (fun iv W => ∃ i : Nat, i ≤ 4096 ∧ iv = .int .i64 (i : Int) ∧ Aside0 (Kl w W i)) (fun iv _ => 4096 - (intOf iv).toNat)
  case atStart => exact ⟨0, by omega, rfl, ⟨⟨below_alloc (Below.refl _ _) _, chunk_new w⟩⟩⟩
  case round =>
    obtain ⟨i, hi, rfl, ⟨hl⟩⟩ := hrel
    have HL := Lib.hid hl
    clear hl
    by_cases hlt : i < 4096
    · have hd := decide_eq_true (show (i : Int) < 4096 by omega)
      have p1 : (0 ≤ (i : Int)) = True := eq_true (by omega)
      have p2 : ((i : Int) < 4096) = True := eq_true (by omega)
      obtain ⟨c0, c1⟩ := HL.out.ch.atL i hlt
      have cf0 := HL.out.ch.frz (8192 + i * 2)
      have cf1 := HL.out.ch.frz (8192 + i * 2 + 1)
      have HN := Lib.hid (⟨Below.setCell (Below.setCell HL.out.below (Nat.le_refl _) (p := ⟨w.heap.size, 8192 + i * 2, none⟩) (.int .u8 15)) (Nat.le_refl _) (p := ⟨w.heap.size, 8192 + i * 2 + 1, none⟩) (.int .u8 0), by
        have h := HL.out.ch.setL i hlt (15, 0)
        rw [fillN, Nat.zero_add]
        exact h⟩ : Kl w ((wr.setCell ⟨w.heap.size, 8192 + i * 2, none⟩ (.int .u8 15)).setCell ⟨w.heap.size, 8192 + i * 2 + 1, none⟩ (.int .u8 0)) (i + 1))
      go_wp2
      go_roundw
      case rel => exact ⟨i + 1, by omega, by go_num, ⟨HN.out⟩⟩
      case measure => simp [intOf]; omega
    · obtain rfl : i = 4096 := by omega
      have hd := decide_eq_false (show ¬ ((4096 : Nat) : Int) < 4096 by decide)
      have hch := HL.out.ch
      rw [fillN_all (15, 0) 4096 air (by rw [air_len]; exact Nat.le_refl _), List.drop_of_length_le (by rw [air_len]; exact Nat.le_refl _), List.append_nil] at hch
      have hch2 := (hch.setC 0 (by decide) (2, 0)).setL 0 (by decide) (0, 0)
      have HC := Lib.hid hch2
      have HB := Lib.hid HL.out.below
      obtain ⟨c0, c1⟩ := hch.atC 0 (by decide)
      obtain ⟨c2, c3⟩ := hch.atL 0 (by decide)
      have c4 := hch.atT
      have f0 := hch.frz 0
      have f1 := hch.frz 1
      have f2 := hch.frz 8192
      have f3 := hch.frz 8193
      have f4 := hch.frz 16384
      have hgl := hch.lt
      have hgn : ¬ w.heap.size = wr.heap.size := by omega
      clear hch hch2 hlt hi HL
      go_wp2_with fail
      obtain ⟨F8, T8⟩ := set_ticksK HC.out knownT (by decide) 48 2 rfl #[.int .i64 0, .int .i64 1, .int .i64 2, .int .i64 300] rfl
      rw [World.size_setCell, World.size_setCell, World.size_setCell, World.size_setCell] at F8 T8
      have HB8 := Lib.hid (below_alloc (Below.setCell (Below.setCell (Below.setCell (Below.setCell (Below.setCell HB.out (Nat.le_refl _) (p := ⟨w.heap.size, 0, none⟩) (.int .u8 2)) (Nat.le_refl _) (p := ⟨w.heap.size, 1, none⟩) (.int .u8 0)) (Nat.le_refl _) (p := ⟨w.heap.size, 8192, none⟩) (.int .u8 0)) (Nat.le_refl _) (p := ⟨w.heap.size, 8193, none⟩) (.int .u8 0)) (Nat.le_refl _) (p := ⟨w.heap.size, 16384, none⟩) (.slice (some ⟨wr.heap.size, 0, none⟩) 2 2)) (.cells #[.int .i64 0, .int .i64 1, .int .i64 2, .int .i64 300] 48))
      have HF8 := Lib.hid F8
      have HT8 := Lib.hid T8
      have hput := Lib.hid (put_pk HF8.out HT8.out known_pk)
      clear F8 T8 c0 c1 c2 c3 c4 f0 f1 f2 f3 f4 HC
      refine hput.out.mono ?_; rintro e w2 ⟨v2, rfl, ho, hb2⟩
      rw [known_bytes] at ho
      obtain ⟨A2, c2, rfl, hc2, hr2⟩ := OB.slice ho
      have HB2 := Lib.hid (below_step HB8.out hb2)
      have HF2 := Lib.hid (HF8.out.below hb2 HF8.out.lt)
      have HT2 := Lib.hid (TK.below HT8.out hb2)
      have eS : ({ data := #[2, 2, 0, 0, 0, 1, 0, 255, 31, 1, 1, 0, 255, 31, 240, 2, 0, 1, 1, 172, 2] } : ByteArray) = strOfNums [2, 2, 0, 0, 0, 1, 0, 255, 31, 1, 1, 0, 255, 31, 240, 2, 0, 1, 1, 172, 2] := by decide +kernel
      have k1 : (convert 26 9 (.slice A2 21 c2)).run Try.prog w2 = .ok (.string { data := #[2, 2, 0, 0, 0, 1, 0, 255, 31, 1, 1, 0, 255, 31, 240, 2, 0, 1, 1, 172, 2] }) w2 := (string_of [2, 2, 0, 0, 0, 1, 0, 255, 31, 1, 1, 0, 255, 31, 240, 2, 0, 1, 1, 172, 2] A2 c2 w2 hr2).trans (by rw [← eS])
      have hget := Lib.hid (pget_calls A2 c2 [2, 2, 0, 0, 0, 1, 0, 255, 31, 1, 1, 0, 255, 31, 240, 2, 0, 1, 1, 172, 2] w2 hr2 hc2 (by
        have := pack_bytes known_u8.1 known_u8.2 known_pk.lenC known_pk.lenL known_may
        rw [known_bytes] at this
        exact this) (by decide))
      clear eS ho hc2 hr2 hb2 hput HF8 HT8 HB8
      go_wp2_with fail
      refine hget.out.mono ?_; rintro e w3 ⟨⟨rfl, hF⟩ | ⟨C', L', T', v3, rfl, hch, htk, hpk⟩, hb3⟩
      · exact absurd (known_bytes ▸ known_pk) (hF _ _ _)
      · obtain ⟨rfl, rfl, rfl⟩ := pk_one (show Pk _ knownC knownL knownT from known_bytes ▸ known_pk) hpk
        have HB3 := Lib.hid (below_step HB2.out hb3)
        have hsame := Lib.hid (same_calls _ _ knownC knownL knownT _ _ w3 (HF2.out.below hb3 HF2.out.lt) hch known_u8.1 known_u8.2 (TK.below HT2.out hb3) htk (by decide))
        clear hb3 hch htk hpk hget k1
        go_wp2_with fail
        refine hsame.out.mono ?_; rintro e w4 ⟨rfl, hb4⟩
        have HB4 := Lib.hid (below_step HB3.out hb4)
        clear hb4 hsame
        go_wp2_with fail
        refine (pput_nil _).mono ?_; rintro e w5 ⟨rfl, rfl⟩
        go_wp2_with fail
        refine start_ (n := 23) (S := fun w' => True) (ds := []) #[false, false, false, false, false, false, false, false, false, false, false, false, false, false, false, false, false, false, false, false, false, false, false] (by kernel_rfl) rfl rfl trivial (fun hHeld => ?_)
        refine pure_ (i := 0) (N := some 71) (v := ?_) (a' := ?_) #[true, false, false, false, false, false, false, false, false, false, false, false, false, false, false, false, false, false, false, false, false, false, false] rfl rfl (by kernel_rfl) (fun _ _ _ h => h) (Or.inl ⟨by rfl, ?_⟩) ?_ ?_
        rotate_left
        · intro w'
          go_simp
          with_reducible rfl
        rotate_left
        · simp only [Act.put, List.setIfInBounds_toArray, List.set_cons_zero, List.set_cons_succ, i64_w, i32_w]
          rfl
        refine pure_ (i := 1) (N := some 72) (v := ?_) (a' := ?_) #[true, true, false, false, false, false, false, false, false, false, false, false, false, false, false, false, false, false, false, false, false, false, false] rfl rfl (by kernel_rfl) (fun _ _ _ h => h) (Or.inl ⟨by rfl, ?_⟩) ?_ ?_
        rotate_left
        · intro w'
          go_simp
          with_reducible rfl
        rotate_left
        · simp only [Act.put, List.setIfInBounds_toArray, List.set_cons_zero, List.set_cons_succ, i64_w, i32_w]
          rfl
        refine pure_ (i := 2) (N := some 73) (v := ?_) (a' := ?_) #[true, true, true, false, false, false, false, false, false, false, false, false, false, false, false, false, false, false, false, false, false, false, false] rfl rfl (by kernel_rfl) (fun _ _ _ h => h) (Or.inl ⟨by rfl, ?_⟩) ?_ ?_
        rotate_left
        · intro w'
          go_simp
          with_reducible rfl
        rotate_left
        · simp only [Act.put, List.setIfInBounds_toArray, List.set_cons_zero, List.set_cons_succ, i64_w, i32_w]
          rfl
        refine pure_ (i := 3) (N := some 74) (v := ?_) (a' := ?_) #[true, true, true, true, false, false, false, false, false, false, false, false, false, false, false, false, false, false, false, false, false, false, false] rfl rfl (by kernel_rfl) (fun _ _ _ h => h) (Or.inl ⟨by rfl, ?_⟩) ?_ ?_
        rotate_left
        · intro w'
          go_simp
          with_reducible rfl
        rotate_left
        · simp only [Act.put, List.setIfInBounds_toArray, List.set_cons_zero, List.set_cons_succ, i64_w, i32_w]
          rfl
        refine pure_ (i := 4) (N := some 75) (v := ?_) (a' := ?_) #[true, true, true, true, true, false, false, false, false, false, false, false, false, false, false, false, false, false, false, false, false, false, false] rfl rfl (by kernel_rfl) (fun _ _ _ h => h) (Or.inl ⟨by rfl, ?_⟩) ?_ ?_
        rotate_left
        · intro w'
          go_simp
          with_reducible rfl
        rotate_left
        · simp only [Act.put, List.setIfInBounds_toArray, List.set_cons_zero, List.set_cons_succ, i64_w, i32_w]
          rfl
        refine pure_ (i := 5) (N := some 76) (v := ?_) (a' := ?_) #[true, true, true, true, true, true, false, false, false, false, false, false, false, false, false, false, false, false, false, false, false, false, false] rfl rfl (by kernel_rfl) (fun _ _ _ h => h) (Or.inl ⟨by rfl, ?_⟩) ?_ ?_
        rotate_left
        · intro w'
          go_simp
          with_reducible rfl
        rotate_left
        · simp only [Act.put, List.setIfInBounds_toArray, List.set_cons_zero, List.set_cons_succ, i64_w, i32_w]
          rfl
        refine pure_ (i := 6) (N := some 77) (v := ?_) (a' := ?_) #[true, true, true, true, true, true, true, false, false, false, false, false, false, false, false, false, false, false, false, false, false, false, false] rfl rfl (by kernel_rfl) (fun _ _ _ h => h) (Or.inl ⟨by rfl, ?_⟩) ?_ ?_
        rotate_left
        · intro w'
          go_simp
          with_reducible rfl
        rotate_left
        · simp only [Act.put, List.setIfInBounds_toArray, List.set_cons_zero, List.set_cons_succ, i64_w, i32_w]
          rfl
        refine pure_ (i := 7) (N := some 78) (v := ?_) (a' := ?_) #[true, true, true, true, true, true, true, true, false, false, false, false, false, false, false, false, false, false, false, false, false, false, false] rfl rfl (by kernel_rfl) (fun _ _ _ h => h) (Or.inl ⟨by rfl, ?_⟩) ?_ ?_
        rotate_left
        · intro w'
          go_simp
          with_reducible rfl
        rotate_left
        · simp only [Act.put, List.setIfInBounds_toArray, List.set_cons_zero, List.set_cons_succ, i64_w, i32_w]
          rfl
        refine pure_ (i := 8) (N := some 79) (v := ?_) (a' := ?_) #[true, true, true, true, true, true, true, true, true, false, false, false, false, false, false, false, false, false, false, false, false, false, false] rfl rfl (by kernel_rfl) (fun _ _ _ h => h) (Or.inl ⟨by rfl, ?_⟩) ?_ ?_
        rotate_left
        · intro w'
          go_simp
          with_reducible rfl
        rotate_left
        · simp only [Act.put, List.setIfInBounds_toArray, List.set_cons_zero, List.set_cons_succ, i64_w, i32_w]
          rfl
        refine pure_ (i := 9) (N := some 80) (v := ?_) (a' := ?_) #[true, true, true, true, true, true, true, true, true, true, false, false, false, false, false, false, false, false, false, false, false, false, false] rfl rfl (by kernel_rfl) (fun _ _ _ h => h) (Or.inl ⟨by rfl, ?_⟩) ?_ ?_
        rotate_left
        · intro w'
          go_simp
          with_reducible rfl
        rotate_left
        · simp only [Act.put, List.setIfInBounds_toArray, List.set_cons_zero, List.set_cons_succ, i64_w, i32_w]
          rfl
        refine pure_ (i := 10) (N := some 81) (v := ?_) (a' := ?_) #[true, true, true, true, true, true, true, true, true, true, true, false, false, false, false, false, false, false, false, false, false, false, false] rfl rfl (by kernel_rfl) (fun _ _ _ h => h) (Or.inl ⟨by rfl, ?_⟩) ?_ ?_
        rotate_left
        · intro w'
          go_simp
          with_reducible rfl
        rotate_left
        · simp only [Act.put, List.setIfInBounds_toArray, List.set_cons_zero, List.set_cons_succ, i64_w, i32_w]
          rfl
        refine pure_ (i := 11) (N := some 82) (v := ?_) (a' := ?_) #[true, true, true, true, true, true, true, true, true, true, true, true, false, false, false, false, false, false, false, false, false, false, false] rfl rfl (by kernel_rfl) (fun _ _ _ h => h) (Or.inl ⟨by rfl, ?_⟩) ?_ ?_
        rotate_left
        · intro w'
          go_simp
          with_reducible rfl
        rotate_left
        · simp only [Act.put, List.setIfInBounds_toArray, List.set_cons_zero, List.set_cons_succ, i64_w, i32_w]
          rfl
        refine pure_ (i := 12) (N := some 83) (v := ?_) (a' := ?_) #[true, true, true, true, true, true, true, true, true, true, true, true, true, false, false, false, false, false, false, false, false, false, false] rfl rfl (by kernel_rfl) (fun _ _ _ h => h) (Or.inl ⟨by rfl, ?_⟩) ?_ ?_
        rotate_left
        · intro w'
          go_simp
          with_reducible rfl
        rotate_left
        · simp only [Act.put, List.setIfInBounds_toArray, List.set_cons_zero, List.set_cons_succ, i64_w, i32_w]
          rfl
        refine pure_ (i := 13) (N := some 84) (v := ?_) (a' := ?_) #[true, true, true, true, true, true, true, true, true, true, true, true, true, true, false, false, false, false, false, false, false, false, false] rfl rfl (by kernel_rfl) (fun _ _ _ h => h) (Or.inl ⟨by rfl, ?_⟩) ?_ ?_
        rotate_left
        · intro w'
          go_simp
          with_reducible rfl
        rotate_left
        · simp only [Act.put, List.setIfInBounds_toArray, List.set_cons_zero, List.set_cons_succ, i64_w, i32_w]
          rfl
        refine pure_ (i := 14) (N := some 85) (v := ?_) (a' := ?_) #[true, true, true, true, true, true, true, true, true, true, true, true, true, true, true, false, false, false, false, false, false, false, false] rfl rfl (by kernel_rfl) (fun _ _ _ h => h) (Or.inl ⟨by rfl, ?_⟩) ?_ ?_
        rotate_left
        · intro w'
          go_simp
          with_reducible rfl
        rotate_left
        · simp only [Act.put, List.setIfInBounds_toArray, List.set_cons_zero, List.set_cons_succ, i64_w, i32_w]
          rfl
        refine pure_ (i := 15) (N := some 86) (v := ?_) (a' := ?_) #[true, true, true, true, true, true, true, true, true, true, true, true, true, true, true, true, false, false, false, false, false, false, false] rfl rfl (by kernel_rfl) (fun _ _ _ h => h) (Or.inl ⟨by rfl, ?_⟩) ?_ ?_
        rotate_left
        · intro w'
          go_simp
          with_reducible rfl
        rotate_left
        · simp only [Act.put, List.setIfInBounds_toArray, List.set_cons_zero, List.set_cons_succ, i64_w, i32_w]
          rfl
        refine pure_ (i := 16) (N := some 87) (v := ?_) (a' := ?_) #[true, true, true, true, true, true, true, true, true, true, true, true, true, true, true, true, true, false, false, false, false, false, false] rfl rfl (by kernel_rfl) (fun _ _ _ h => h) (Or.inl ⟨by rfl, ?_⟩) ?_ ?_
        rotate_left
        · intro w'
          go_simp
          with_reducible rfl
        rotate_left
        · simp only [Act.put, List.setIfInBounds_toArray, List.set_cons_zero, List.set_cons_succ, i64_w, i32_w]
          rfl
        refine pure_ (i := 17) (N := some 88) (v := ?_) (a' := ?_) #[true, true, true, true, true, true, true, true, true, true, true, true, true, true, true, true, true, true, false, false, false, false, false] rfl rfl (by kernel_rfl) (fun _ _ _ h => h) (Or.inl ⟨by rfl, ?_⟩) ?_ ?_
        rotate_left
        · intro w'
          go_simp
          with_reducible rfl
        rotate_left
        · simp only [Act.put, List.setIfInBounds_toArray, List.set_cons_zero, List.set_cons_succ, i64_w, i32_w]
          rfl
        refine pure_ (i := 18) (N := some 89) (v := ?_) (a' := ?_) #[true, true, true, true, true, true, true, true, true, true, true, true, true, true, true, true, true, true, true, false, false, false, false] rfl rfl (by kernel_rfl) (fun _ _ _ h => h) (Or.inl ⟨by rfl, ?_⟩) ?_ ?_
        rotate_left
        · intro w'
          go_simp
          with_reducible rfl
        rotate_left
        · simp only [Act.put, List.setIfInBounds_toArray, List.set_cons_zero, List.set_cons_succ, i64_w, i32_w]
          rfl
        refine pure_ (i := 19) (N := some 90) (v := ?_) (a' := ?_) #[true, true, true, true, true, true, true, true, true, true, true, true, true, true, true, true, true, true, true, true, false, false, false] rfl rfl (by kernel_rfl) (fun _ _ _ h => h) (Or.inl ⟨by rfl, ?_⟩) ?_ ?_
        rotate_left
        · intro w'
          go_simp
          with_reducible rfl
        rotate_left
        · simp only [Act.put, List.setIfInBounds_toArray, List.set_cons_zero, List.set_cons_succ, i64_w, i32_w]
          rfl
        refine pure_ (i := 20) (N := some 91) (v := ?_) (a' := ?_) #[true, true, true, true, true, true, true, true, true, true, true, true, true, true, true, true, true, true, true, true, true, false, false] rfl rfl (by kernel_rfl) (fun _ _ _ h => h) (Or.inl ⟨by rfl, ?_⟩) ?_ ?_
        rotate_left
        · intro w'
          go_simp
          with_reducible rfl
        rotate_left
        · simp only [Act.put, List.setIfInBounds_toArray, List.set_cons_zero, List.set_cons_succ, i64_w, i32_w]
          rfl
        refine one_ (i := 21) (N := some 92) #[true, true, true, true, true, true, true, true, true, true, true, true, true, true, true, true, true, true, true, true, true, true, false] rfl rfl (by kernel_rfl) (by decide) (fun K hK => ?_)
        refine value_ (w1 := ?_) (v := ?_) (by rfl) rfl ?_ ?_
        rotate_left 2
        · go_simp
          constructor
          · rfl
          · rfl
        refine hK.out _ _ trivial (fun hHeld => ?_)
        clear hK K
        refine norm_ (a' := ?_) ?_ ?_
        rotate_left
        · show Act.put _ (some 92) _ = _
          simp only [Act.put, List.setIfInBounds_toArray, List.set_cons_zero, List.set_cons_succ, i64_w, i32_w]
          rfl
        refine pure_ (i := 22) (N := some 10) (v := ?_) (a' := ?_) #[true, true, true, true, true, true, true, true, true, true, true, true, true, true, true, true, true, true, true, true, true, true, true] rfl rfl (by kernel_rfl) (fun _ _ _ h => h) (Or.inl ⟨by rfl, ?_⟩) ?_ ?_
        rotate_left
        · intro w'
          go_simp
          with_reducible rfl
        rotate_left
        · simp only [Act.put, List.setIfInBounds_toArray, List.set_cons_zero, List.set_cons_succ, i64_w, i32_w]
          rfl
        refine done_ (by kernel_rfl) ?_
        have HBL := Lib.hid (⟨below_drew (below_alloc HB4.out _), blk_new w5 _⟩ : Bl w (w5.alloc (.cells (badS.map Value.string).toArray 9)).drew w5.heap.size)
        generalize hw6 : (w5.alloc (.cells #[.string ({ data := #[] } : ByteArray), .string ({ data := #[0] } : ByteArray), .string (({ data := #[1, 0, 0, 128, 32, 0, 128, 32, 0] } : ByteArray) ++ { data := #[1] }), .string (({ data := #[1, 0, 0, 128, 32, 0, 128, 32, 0] } : ByteArray) ++ { data := #[0, 0] }), .string ({ data := #[1, 0, 0, 128, 32, 0, 128, 32, 0] } : ByteArray), .string (({ data := #[1, 15] } : ByteArray) ++ ({ data := #[1, 0, 0, 128, 32, 0, 128, 32, 0] } : ByteArray).extract 2 9 ++ { data := #[0] }), .string (({ data := #[2, 0, 0, 0, 0] } : ByteArray) ++ ({ data := #[1, 0, 0, 128, 32, 0, 128, 32, 0] } : ByteArray).extract 3 9 ++ { data := #[0] }), .string (({ data := #[2, 0, 0, 2, 0] } : ByteArray) ++ ({ data := #[1, 0, 0, 128, 32, 0, 128, 32, 0] } : ByteArray).extract 3 9 ++ { data := #[0] }), .string (({ data := #[1, 0, 0, 128, 32, 0, 128, 32, 0] } : ByteArray) ++ { data := #[1, 0, 0] }), .string (({ data := #[1, 0, 0, 128, 32, 0, 128, 32, 0] } : ByteArray) ++ { data := #[1, 128, 32, 1] })] 9)).drew = w6
        have HBL6 := Lib.hid (show Bl w w6 w5.heap.size from by rw [← hw6]; exact HBL.out)
        clear hw6 HBL
        obtain ⟨bb, hbb⟩ : ∃ bb, w5.heap.size = bb := ⟨_, rfl⟩
        rw [hbb] at HBL6 ⊢
        clear hbb
        go_wp2_with fail
        go_loopw [11] (fun iv W => ∃ j : Nat, j ≤ 10 ∧ iv = .int .i64 (j : Int) ∧ Aside0 (Bl w W bb)) (fun iv _ => 10 - (intOf iv).toNat)
        case atStart => exact ⟨0, by omega, rfl, ⟨HBL6.out⟩⟩
        case round =>
          obtain ⟨j, hj, rfl, ⟨hbl⟩⟩ := hrel
          have HL := Lib.hid hbl
          clear hbl
          by_cases hjl : j < 10
          · have hd2 := decide_eq_true (show (j : Int) < 10 by omega)
            have q1 : (0 ≤ (j : Int)) = True := eq_true (by omega)
            have q2 : ((j : Int) < 10) = True := eq_true (by omega)
            have c0 := (blk_cell HL.out.blk j).trans (badS_at j hjl)
            have hsz := badS_size j hjl
            have hno := Lib.hid (badS_none j hjl)
            obtain ⟨s, hs⟩ : ∃ s, badS.getD j ByteArray.empty = s := ⟨_, rfl⟩
            rw [hs] at c0 hsz hno
            have kb := bytes_run s
            have hget := Lib.hid (fun W => pgetstr_calls s W (by omega))
            clear hs
            go_wp2_with fail
            refine (hget.out _).mono ?_; rintro e w7 ⟨⟨rfl, _⟩ | ⟨C', L', T', v3, _, _, _, hpk⟩, hb7⟩
            · have HN := Lib.hid (⟨below_step HL.out.below (below_step (bw_below wr s) hb7), blk_below (blk_below HL.out.blk (bw_below wr s)) hb7⟩ : Bl w w7 bb)
              clear hb7 c0 kb
              go_wp2
              go_roundw
              case rel => exact ⟨j + 1, by omega, by go_num, ⟨HN.out⟩⟩
              case measure => simp [intOf]; omega
            · exact absurd hpk (hno.out _ _ _)
          · have hd2 := decide_eq_false (show ¬ (j : Int) < 10 by omega)
            go_wp2_with fail
            refine (works_calls _).mono ?_; rintro e w8 ⟨rfl, hb8⟩
            have HB8 := Lib.hid (below_step HL.out.below hb8)
            clear hb8
            go_wp2
            go_ret
            exact ⟨rfl, HB8.out⟩
end Go.Proofs.Ytkecppgodmbmlaa.PK
