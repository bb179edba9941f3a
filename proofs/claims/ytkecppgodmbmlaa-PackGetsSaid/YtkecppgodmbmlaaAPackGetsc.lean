/- The own texts that the statement PackGets leans on: PkGet, FirstP, FirstF, RRdr, RRdrNum, QRef, PkRefTicks, PkRefP, PkRefMay, PkRefPal, PkRefPut, PkSame, PkRefSame, PkMade, PkMade2, PkArg, PkArg2, BAsk, PkTicks, PkPuts. -/
import Derived.Test.YtkecppgodmbmlaaAPackGets
import Derived.Test.YtkecppgodmbmlaaAPackGetsb
import Derived.Test.YtkecppgodmbmlaaPPackGetsx2
import Derived.ScopeJumps
import Derived.Deep.DeepCutAuto
import Derived.Outline
import Derived.Test.YtkecppgodmbmlaaPPackGetsx3
import Derived.Deep.QuietTactic
import Derived.BigQuiet
import Derived.DeepKeys
import Derived.Deep.RegionHeld3
import Derived.OpenShut
import Derived.ChangeSame
import Derived.Deep.Slices
import Derived.Deep.Fields
import Derived.DataShut
import Derived.RowKit
import Derived.SizedLaws
namespace Go.Proofs.Ytkecppgodmbmlaa.PK
open Go.RowKit Go.Proofs.YtkecppgodmbmlaaW.PrintWords Go.Proofs.YtkecppgodmbmlaaW.PrintLast Go.Proofs.YtkecppgodmbmlaaW.PrintMore Go.Proofs.Ytkecppgodmbmlaa.CD Go.Proofs.Ytkecppgodmbmlaa.BR
attribute [local go_sem] max2_int min2_int max_two min_two max_three min_three max_four min_four
set_option linter.unusedVariables false
set_option linter.unusedSimpArgs false
def GetsC (b : List Int) (w : World) (e : Ending) (w' : World) : Prop :=
  ((e = .returned (.tuple #[.pointer none, .int .i64 4]) ∧ ∀ C L T, ¬ Pk b C L T) ∨ ∃ C L T v, e = .returned (.tuple #[.pointer (some ⟨w.heap.size, 0, none⟩), .int .i64 0]) ∧ Chunk w' w.heap.size C L v ∧ TK w' v T ∧ Pk b C L T) ∧ Below w.heap.size w w'
def Fails (b : List Int) (w : World) (a : Act) (W : World) : Prop := a.tmps.size = 171 ∧ a.defers = [] ∧ (∀ C L T, ¬ Pk b C L T) ∧ Below w.heap.size w W
theorem hr1 (b : List Int) (hb : Bytes b) (i : Nat) : 0 ≤ b.getD i 0 ∧ b.getD i 0 < 256 := by
  rw [List.getD_eq_getElem?_getD]
  cases h : b[i]? with
  | none => exact ⟨Int.le_refl _, by decide⟩
  | some x => exact hb x (List.mem_of_getElem? h)
theorem bytes_of_row (l : List Int) (h : Bytes (RU.row l)) : Bytes l := fun x hx => by
  rw [← RU.flat_runs l] at hx
  unfold RU.flat at hx
  obtain ⟨p, hp, hx⟩ := List.mem_flatMap.1 hx
  obtain ⟨_, rfl⟩ := List.mem_replicate.1 hx
  exact h _ (by unfold RU.row RU.rBytes; exact List.mem_flatMap.2 ⟨p, hp, by simp⟩)
theorem rNum_lt (X : List Int) (br : Bool) (hX : Bytes X) : (rNum (X, br)).1 < 18446744073709551616 := by
  unfold rNum
  cases br with
  | true => exact (by decide : (0 : Nat) < 18446744073709551616)
  | false =>
    simp only [Bool.false_eq_true, if_false]
    split
    · exact (by decide : (0 : Nat) < 18446744073709551616)
    · rename_i h
      exact (dec_back X hX _ _ rfl h).1
theorem w64n (n : Nat) (h : n < 9223372036854775808) : wrap64 (n : Int) = (n : Int) := by unfold wrap64; omega
theorem and15 (y : Nat) (h : y < 256) : bits .and .u8 (y : Int) 15 = (y : Int) % 16 := by
  have : ∀ y < 256, bits .and .u8 ((y : Nat) : Int) 15 = ((y : Nat) : Int) % 16 := by decide +kernel
  exact this y h
theorem half_set (f : Int → Pr) (xs : List Int) (hl : xs.length = 4096) (i : Nat) (hi : i < 4096) : ((xs.take i).map f ++ List.replicate (4096 - i) P0).set i (f (xs.getD i 0)) = (xs.take (i + 1)).map f ++ List.replicate (4096 - (i + 1)) P0 := by
  have h1 : ((xs.take i).map f).length = i := by rw [List.length_map, List.length_take]; omega
  rw [List.set_append_right _ _ (by omega), h1, Nat.sub_self, show 4096 - i = (4096 - (i + 1)) + 1 by omega, List.replicate_succ, List.set_cons_zero, List.take_add_one, List.map_append, List.append_assoc, List.getElem?_eq_getElem (by omega), List.getD_eq_getElem?_getD, List.getElem?_eq_getElem (by omega)]
  rfl
def halfC (b cs : List Int) (i : Nat) : List Pr := (cs.take i).map (palAt b) ++ List.replicate (4096 - i) P0
def halfL (ls : List Int) (i : Nat) : List Pr := (ls.take i).map lightOf ++ List.replicate (4096 - i) P0
structure Lp (w wb W : World) (b cs ls : List Int) (i : Nat) : Prop where
  below : Below w.heap.size w W
  far : ∀ k, k ≠ w.heap.size → k < wb.heap.size → W.heap[k]? = wb.heap[k]?
  ch : Chunk W w.heap.size (halfC b cs i) (halfL ls i) (.slice none 0 0)
theorem Lp.cellOf {w wb W : World} {b cs ls : List Int} {i : Nat} (h : Lp w wb W b cs ls i) {p : Addr} {v : Value} (hp : p.block ≠ w.heap.size) (hc : wb.cell? p = some v) : W.cell? p = some v := by
  have hl := World.block_lt_of_cell? wb _ hc
  rw [← hc]
  unfold World.cell?
  rw [h.far p.block hp hl]
theorem infoTick' : (Try.prog.info? 48).map (fun i => (i.zero, i.size, i.bytes)) = some (some (.agg #[.int .i64 0, .int .i64 0]), 2, 16) := by kernel_rfl
structure Tl (w W : World) (n8 rg : Nat) (b : List Int) (C L T : List Pr) (s : St) (v : Value) (many : Nat) (at_ : Int) : Prop where
  below : Below w.heap.size w W
  rdr : BQ.Rdr (fun k => n8 ≤ k ∧ k < rg) W rg s.1 s.2
  ch : Chunk W w.heap.size C L v
  tk : Kd.R kT 48 W w.heap.size (fun k => rg < k) v T
  ts : TS b T s.1 s.2 many at_
theorem Tl.under {w W W' : World} {n8 rg : Nat} {b : List Int} {C L T : List Pr} {s : St} {v : Value} {many : Nat} {at_ : Int} (h : Tl w W n8 rg b C L T s v many at_) (hb : Below W.heap.size W W') : Tl w W' n8 rg b C L T s v many at_ :=
  ⟨below_step h.below hb, h.rdr.below hb, h.ch.below hb h.ch.lt, Kd.R_below h.tk hb, h.ts⟩
theorem equal_calls (A B : Option Addr) (c d : Nat) (l m : List Int) (w : World) (hl : ReadsInt w .u8 A l.length l) (hc : l.length ≤ c) (hm : ReadsInt w .u8 B m.length m) (hd : m.length ≤ d) (hb1 : Bytes l) (hb2 : Bytes m) :
    Calls Try.prog 34 #[.slice A l.length c, .slice B m.length d] w fun e w' => e = .returned (.bool (decide (l = m))) ∧ Drawn0 w w' := by
  refine PPackGets.bytes_Equal.calls A c l B d m _ w (Kd.C_of_reads (d := (0 : Int)) (h1 := fun _ => rfl) hl) hc (Kd.C_of_reads (d := (0 : Int)) (h1 := fun _ => rfl) hm) hd ?_
  unfold PPackGets.bytes_Equal.f
  by_cases h : l = m
  · rw [h]; simp
  · rw [decide_eq_false h, BS.beq_not (fun e => h (BS.str_inj hb1 hb2 e))]
theorem pack_bytes {C L T : List Pr} (hC : U8 C) (hL : U8 L) (lC : C.length = 4096) (lL : L.length = 4096) (hm : mayB C L T = true) : Bytes (packB C L T) := by
  have hp : Pk (packB C L T) C L T := ⟨lC, lL, hC, hL, hm, rfl⟩
  have h1 := hp.pal
  rw [packB_parts]
  refine Bytes.mk ⟨by omega, by omega⟩ (Bytes.append ?_ (Bytes.append ?_ (Bytes.append ?_ (Bytes.append ?_ ?_))))
  · intro x hx
    obtain ⟨p, hp, hx⟩ := List.mem_flatMap.1 hx
    have := hC p ((codes_nodup C).2 p hp)
    simp only [List.mem_cons, List.not_mem_nil, or_false] at hx
    omega
  · refine RU.row_bytes _ (fun k hk => ?_) (by rw [codes_len, lC]; decide)
    have := (codes_mean C).2 k hk
    omega
  · refine RU.row_bytes _ (fun k hk => ?_) (by rw [List.length_map, lL]; decide)
    obtain ⟨p, hpl, rfl⟩ := List.mem_map.1 hk
    have := hp.mayL p hpl
    unfold lcode
    omega
  · exact num_bytes _ (by have := hp.few; omega)
  · have : ∀ (T : List Pr) (was : Int), -1 ≤ was → tOk was T = true → Bytes (tBytes was T) := by
      intro T
      induction T with
      | nil => exact fun _ _ _ => Bytes.nil
      | cons t r ih =>
        intro was hw h
        obtain ⟨⟨a, c⟩, ⟨d, e⟩, hr⟩ := tOk_cons h
        exact Bytes.append (num_bytes _ (by omega)) (Bytes.append (num_bytes _ (by omega)) (ih t.1 (by omega) hr))
    exact this T (-1) (by omega) (may_tick hm)
theorem own4096 {W : World} {base : Nat} {v : Value} {l : List Int} (h : OB W base v l) (hl : l.length = 4096) : ∃ g c, v = .slice (some ⟨g, 0, none⟩) 4096 c ∧ 4096 ≤ c ∧ base ≤ g ∧ g < W.heap.size ∧ ∀ j, j < 4096 → W.cell? ⟨g, j, none⟩ = some (.int .u8 (l.getD j 0)) := by
  obtain ⟨A, c, rfl, hc, _⟩ := OB.slice h
  obtain ⟨g, rfl, h1, h2⟩ := OB.form h (by rw [hl]; decide)
  refine ⟨g, c, by rw [hl], by omega, h1, h2, fun j hj => ?_⟩
  have := (OB.at_ h j (by omega)).1
  rw [rd, Int.toNat_natCast] at this
  exact this
set_option maxHeartbeats 4000000 in
set_option maxRecDepth 100000 in
theorem pget_calls (A : Option Addr) (c : Nat) (b : List Int) (w : World) (hr : ReadsInt w .u8 A b.length b) (hc : b.length ≤ c) (hb : Bytes b) (hs : b.length ≤ 140737488355328) :
    Calls Try.prog 18 #[.slice A b.length c] w (GetsC b w) := by
  have hbu := run_zero
  have hbo := run_box
  have hbd := run_build
  have HR := Lib.hid hr
  have HC := Lib.hid hc
  have HB := Lib.hid hb
  clear hr hc hb
  go_enter Try.func18, Try.ntmps18
  go_wp2
  refine wp_scope_jumps 0 (Fails b w) (fun _ _ => 0) rfl ?_ ?_
  case refine_2 =>
    rintro a w' ⟨ha, hd, hf, hbw⟩
    obtain ⟨ts, ds⟩ := a
    simp only at ha hd
    subst hd
    go_wp2
    simp only [Exit.jump]
    refine bodyPost_ret (v := .tuple #[.pointer none, .int .i64 4]) ?_ rfl ⟨.inl ⟨rfl, hf⟩, hbw⟩
    simp [results, Try.results18, go_sem, ha]
  by_cases h0 : b = []
  · have hF := Lib.hid (show ∀ C L T, ¬ Pk b C L T from fun C L T h => by
      obtain ⟨k, e, _⟩ := h.head
      rw [h0] at e
      cases e)
    subst h0
    go_wp2
    clear hbu hbo hbd
    go_step3
    exact ⟨rfl, rfl, rfl, hF.out, below_alloc (Below.refl _ _) _⟩
  · obtain ⟨k, hk⟩ : ∃ k : Nat, b.getD 0 0 = (k : Int) := by
      have h1 := hr1 b HB.out 0
      exact ⟨(b.getD 0 0).toNat, by omega⟩
    have hk8 : k < 256 := by
      have h1 := hr1 b HB.out 0
      omega
    have hlen : 0 < b.length := List.length_pos_iff.2 h0
    have HK := Lib.hid hk
    obtain ⟨ad, rfl, hcell⟩ := HR.out.2.2 hlen
    have hc0 := hcell 0 hlen
    rw [hk, Addr.add_zero'] at hc0
    have HQ0 := Lib.hid (fun W (h : Below w.heap.size w W) => Lib.Below.cellOf h hc0 (Nat.le_refl _))
    have HCELL := Lib.hid hcell
    have q0 := HQ0.out _ (below_alloc (Below.refl _ w) (.cells zero 46))
    have d0 := decide_eq_true (show (0 : Int) < (b.length : Int) by omega)
    have i0 : (0 : Int) < (b.length : Int) := by omega
    clear hc0 hcell h0 hk
    by_cases hk0 : k = 0
    · have hF := Lib.hid (show ∀ C L T, ¬ Pk b C L T from fun C L T h => by
        have := h.drop k HK.out
        omega)
      rw [hk0, Int.natCast_zero] at q0
      clear hk0 hk8
      go_wp2
      clear hbu hbo hbd
      go_step3
      exact ⟨rfl, rfl, rfl, hF.out, below_alloc (Below.refl _ _) _⟩
    · have e1 : ((k : Int) == 0) = false := by rw [beq_eq_false_iff_ne]; omega
      have e2 : decide ((k : Int) = 0) = false := decide_eq_false (by omega)
      have hk1 : 1 ≤ k := by omega
      clear hk0
      by_cases hk2 : b.length < 1 + 2 * k
      · have hF := Lib.hid (show ∀ C L T, ¬ Pk b C L T from fun C L T h => by
          have := h.drop k HK.out
          omega)
        have d1 := decide_eq_true (show (b.length : Int) < 1 + 2 * (k : Int) by omega)
        go_wp2
        clear hbu hbo hbd
        go_step3
        exact ⟨rfl, rfl, rfl, hF.out, below_alloc (Below.refl _ _) _⟩
      · have d1 := decide_eq_false (show ¬ (b.length : Int) < 1 + 2 * (k : Int) by omega)
        have hk3 : 1 + 2 * k ≤ b.length := by omega
        obtain ⟨at1, hat1⟩ : ∃ at1 : Nat, at1 = 1 + 2 * k := ⟨_, rfl⟩
        obtain ⟨A1, hcut1, hrd1, hA1⟩ := cutFrom (some ad) b c at1 (by omega) HC.out
        have hl1 : (b.drop at1).length = b.length - at1 := List.length_drop
        have hge := Lib.hid (fun W (h : Below w.heap.size w W) => (show Calls Try.prog 30 #[.slice A1 (b.length - at1) (c - at1), .int .i64 4096] W (RU.Gets (RU.getG 4097 4096 (b.drop at1) []) (b.length - at1) W) from by
          have := RU.rget_calls A1 (c - at1) 4096 (b.drop at1) W (hrd1 W (HR.out.below h)) (by rw [List.length_drop]; have := HC.out; omega) (HB.out.drop _) (by rw [List.length_drop]; omega) (by decide)
          rw [hl1] at this
          exact this))
        have w1 : IntKind.i64.wrap (1 + 2 * (k : Int)) = (at1 : Int) := by rw [i64_w]; unfold wrap64; omega
        have hw1 := Lib.hid w1
        have HAT1 := Lib.hid hat1
        have z1 : (1 : Int) + 2 * (k : Int) = (at1 : Int) := by omega
        have hat1l : at1 ≤ b.length := by omega
        clear hrd1 hA1 hl1 hat1 w1 hk2 hk3
        go_wp2_with fail
        refine (hge.out _ (below_alloc (Below.refl _ _) _)).mono ?_; rintro e wa ⟨hea, hba⟩
        have HBA := Lib.hid (below_step (below_alloc (Below.refl _ w) _) hba)
        have HCH := Lib.hid ((chunk_new w).below hba (chunk_new w).lt)
        rw [World.size_alloc] at hea
        clear hba hge hcut1 q0
        cases hG1 : RU.getG 4097 4096 (b.drop at1) [] with
        | none =>
          rw [hG1] at hea
          simp only at hea
          have hF := Lib.hid (show ∀ C L T, ¬ Pk b C L T from fun C L T h => by
            have h1 := h.drop k HK.out
            rw [← HAT1.out] at h1
            rw [h1.2.2.2.2, h.get1] at hG1
            cases hG1)
          subst hea
          clear hG1
          go_wp2
          clear hbu hbo hbd
          go_step3
          exact ⟨rfl, rfl, rfl, hF.out, HBA.out⟩
        | some q =>
          obtain ⟨cs, r1⟩ := q
          rw [hG1] at hea
          obtain ⟨v5, he5, ho5⟩ := hea
          subst he5
          obtain ⟨hcl, hdr⟩ := RU.getG_one 4096 (b.drop at1) cs r1 (HB.out.drop _) hG1
          have HP1 := Lib.hid (show ∀ C L T, Pk b C L T → cs = (codes C).2 ∧ r1 = tailL L T ∧ k = (codes C).1.length from fun C L T h => by
            have h1 := h.drop k HK.out
            rw [← HAT1.out] at h1
            rw [h1.2.2.2.2, h.get1] at hG1
            injection hG1 with hG1
            injection hG1 with e1 e2
            exact ⟨e1.symm, e2.symm, h1.2.2.2.1⟩)
          have hl := congrArg List.length hdr
          rw [List.length_drop, List.length_append] at hl
          obtain ⟨at2, hat2⟩ : ∃ at2 : Nat, at2 = b.length - r1.length := ⟨_, rfl⟩
          have hd2 : b.drop at2 = r1 := by
            have := congrArg (List.drop (RU.row cs).length) hdr
            rw [List.drop_drop, List.drop_left] at this
            rw [← this]
            congr 1
            omega
          have hr1l : r1.length = b.length - at2 := by omega
          have hat2l : at2 ≤ b.length := by omega
          obtain ⟨u1, hu1⟩ : ∃ u1 : Nat, at1 + u1 = at2 := ⟨at2 - at1, by omega⟩
          have eu1 : ((b.length - at1 : Nat) : Int) - (r1.length : Int) = (u1 : Int) := by omega
          rw [eu1]
          obtain ⟨g5, c5, rfl, hc5, hg5, hg5l, hq5⟩ := own4096 ho5 hcl
          have HQ5 := Lib.hid (fun W (h : Below wa.heap.size wa W) j (hj : j < 4096) => Lib.Below.cellOf h (hq5 j hj) (Nat.le_refl _))
          have HCL := Lib.hid hcl
          have HCB := Lib.hid (show Bytes cs from bytes_of_row cs (Bytes.left (by rw [← hdr]; exact HB.out.drop _)))
          have hrs := hd2
          obtain ⟨A2, hcut2, hrd2, hA2⟩ := cutFrom (some ad) b c at2 hat2l HC.out
          have hge := Lib.hid (fun W (h : Below w.heap.size w W) => (show Calls Try.prog 30 #[.slice A2 (b.length - at2) (c - at2), .int .i64 4096] W (RU.Gets (RU.getG 4097 4096 r1 []) (b.length - at2) W) from by
            have := RU.rget_calls A2 (c - at2) 4096 (b.drop at2) W (hrd2 W (HR.out.below h)) (by rw [List.length_drop]; have := HC.out; omega) (HB.out.drop _) (by rw [List.length_drop]; omega) (by decide)
            rw [hd2, hr1l] at this
            exact this))
          have z2 : (at1 : Int) + (u1 : Int) = (at2 : Int) := by omega
          have HR1 := Lib.hid hr1l
          have HU1 := Lib.hid hu1
          have HD2 := Lib.hid hd2
          clear hrd2 hA2 hat2 hd2 hrs hr1l hu1 hl hdr hq5 ho5 hG1 eu1 hcl hw1
          go_wp2_with fail
          refine (hge.out _ HBA.out).mono ?_; rintro e wb ⟨heb, hbb⟩
          have HBB := Lib.hid (below_step HBA.out hbb)
          have HCHb := Lib.hid (HCH.out.below hbb HCH.out.lt)
          have HQ5b := Lib.hid (fun j hj => HQ5.out wb hbb j hj)
          have hwab := hbb.size
          clear hbb hge hcut2 HCH HQ5
          cases hG2 : RU.getG 4097 4096 r1 [] with
          | none =>
            rw [hG2] at heb
            simp only at heb
            have hF := Lib.hid (show ∀ C L T, ¬ Pk b C L T from fun C L T h => by
              have h1 := HP1.out C L T h
              rw [h1.2.1, h.get2] at hG2
              cases hG2)
            subst heb
            clear hG2
            go_wp2
            clear hbu hbo hbd
            go_step3
            exact ⟨rfl, rfl, rfl, hF.out, HBB.out⟩
          | some q =>
            obtain ⟨ls, r2⟩ := q
            rw [hG2] at heb
            obtain ⟨v6, he6, ho6⟩ := heb
            subst he6
            have hr1b : Bytes r1 := by rw [← HD2.out]; exact HB.out.drop _
            obtain ⟨hll, hdr⟩ := RU.getG_one 4096 r1 ls r2 hr1b hG2
            have HP2 := Lib.hid (show ∀ C L T, Pk b C L T → (cs = (codes C).2 ∧ ls = L.map lcode ∧ r2 = tailT T) ∧ k = (codes C).1.length from fun C L T h => by
              have h1 := HP1.out C L T h
              rw [h1.2.1, h.get2] at hG2
              injection hG2 with hG2
              injection hG2 with e1 e2
              exact ⟨⟨h1.1, e1.symm, e2.symm⟩, h1.2.2⟩)
            have hl := congrArg List.length hdr
            rw [HR1.out, List.length_append] at hl
            obtain ⟨at3, hat3⟩ : ∃ at3 : Nat, at3 = b.length - r2.length := ⟨_, rfl⟩
            have hd3 : b.drop at3 = r2 := by
              have := congrArg (List.drop (RU.row ls).length) hdr
              rw [← HD2.out, List.drop_drop, List.drop_left] at this
              rw [← this]
              congr 1
              omega
            have hr2l : r2.length = b.length - at3 := by omega
            have hat3l : at3 ≤ b.length := by omega
            obtain ⟨u2, hu2⟩ : ∃ u2 : Nat, at2 + u2 = at3 := ⟨at3 - at2, by omega⟩
            have eu2 : ((b.length - at2 : Nat) : Int) - (r2.length : Int) = (u2 : Int) := by omega
            rw [eu2]
            obtain ⟨g6, c6, rfl, hc6, hg6, hg6l, hq6⟩ := own4096 ho6 hll
            have HQ6b := Lib.hid hq6
            have HLL := Lib.hid hll
            have HLB := Lib.hid (show Bytes ls from bytes_of_row ls (Bytes.left (by rw [← hdr]; exact hr1b)))
            have z3 : (at2 : Int) + (u2 : Int) = (at3 : Int) := by omega
            have HR2 := Lib.hid hr2l
            have HD3 := Lib.hid hd3
            have hg6n : w.heap.size < g6 := by have := HBA.out.size; have := HCHb.out.lt; omega
            clear hat3 hd3 hr2l hl hdr hq6 ho6 hG2 eu2 hll hr1b HP1 hu2 hbu hbo hbd
            go_wp2
            go_loopw [65] (fun iv W => ∃ i : Nat, i ≤ 4096 ∧ iv = .int .i64 (i : Int) ∧ Aside0 (Lp w wb W b cs ls i)) (fun iv _ => 4096 - (intOf iv).toNat)
            case atStart => exact ⟨0, by omega, rfl, ⟨⟨HBB.out, fun _ _ _ => rfl, HCHb.out⟩⟩⟩
            case round =>
              obtain ⟨i, hi, rfl, ⟨hlp⟩⟩ := hrel
              have HLP := Lib.hid hlp
              clear hlp
              by_cases hlt : i < 4096
              · have hd := decide_eq_true (show (i : Int) < 4096 by omega)
                have p1 : (0 ≤ (i : Int)) = True := eq_true (by omega)
                have p2 : ((i : Int) < 4096) = True := eq_true (by omega)
                obtain ⟨x, hx⟩ : ∃ x : Nat, cs.getD i 0 = (x : Int) := ⟨(cs.getD i 0).toNat, by have := hr1 cs HCB.out i; omega⟩
                have hx8 : x < 256 := by have := hr1 cs HCB.out i; omega
                have HX := Lib.hid hx
                have c5i := HLP.out.cellOf (p := ⟨g5, i, none⟩) (show g5 ≠ w.heap.size by omega) (HQ5b.out i hlt)
                rw [hx] at c5i
                clear hx
                by_cases hxk : x < k
                · have d5 := decide_eq_false (show ¬ (k : Int) ≤ (x : Int) by omega)
                  have hxb : 2 + 2 * x < b.length := by have := HAT1.out; omega
                  obtain ⟨x1, hx1⟩ : ∃ x1 : Nat, x1 = 1 + 2 * x := ⟨_, rfl⟩
                  obtain ⟨x2, hx2⟩ : ∃ x2 : Nat, x2 = 2 + 2 * x := ⟨_, rfl⟩
                  have s1 := Lib.Below.cellOf HLP.out.below (HCELL.out x1 (by omega)) (Nat.le_refl _)
                  have s2 := Lib.Below.cellOf HLP.out.below (HCELL.out x2 (by omega)) (Nat.le_refl _)
                  obtain ⟨b1, hb1⟩ : ∃ b1, b.getD x1 0 = b1 := ⟨_, rfl⟩
                  obtain ⟨b2, hb2⟩ : ∃ b2, b.getD x2 0 = b2 := ⟨_, rfl⟩
                  rw [hb1] at s1
                  rw [hb2] at s2
                  have HPA := Lib.hid (show palAt b (cs.getD i 0) = (b1, b2) by
                    rw [HX.out]
                    unfold palAt
                    rw [Int.toNat_natCast, ← hx1, ← hx2, hb1, hb2])
                  have f1 : IntKind.i64.wrap (2 * (x : Int)) = 2 * (x : Int) := by rw [i64_w]; unfold wrap64; omega
                  have f2 : IntKind.i64.wrap (1 + 2 * (x : Int)) = (x1 : Int) := by rw [i64_w]; unfold wrap64; omega
                  have f3 : IntKind.i64.wrap (2 + 2 * (x : Int)) = (x2 : Int) := by rw [i64_w]; unfold wrap64; omega
                  have f4 : (1 : Int) + 2 * (x : Int) = (x1 : Int) := by omega
                  have f5 : (2 : Int) + 2 * (x : Int) = (x2 : Int) := by omega
                  have p3 : (0 ≤ (x1 : Int)) = True := eq_true (by omega)
                  have p4 : ((x1 : Int) < (b.length : Int)) = True := eq_true (by omega)
                  have p5 : (0 ≤ (x2 : Int)) = True := eq_true (by omega)
                  have p6 : ((x2 : Int) < (b.length : Int)) = True := eq_true (by omega)
                  obtain ⟨c0, c1⟩ := HLP.out.ch.atC i hlt
                  have cf0 := HLP.out.ch.frz (i * 2)
                  have cf1 := HLP.out.ch.frz (i * 2 + 1)
                  have F1 := Lib.hid (HLP.out.ch.setC i hlt (b1, b2))
                  have f6 : wrap64 (x1 : Int) = (x1 : Int) := w64n _ (by omega)
                  have f7 : wrap64 (x2 : Int) = (x2 : Int) := w64n _ (by omega)
                  clear hb1 hb2 hx1 hx2 hxb
                  go_wp2_with fail
                  refine start_ (n := 19) (S := fun w' => w'.cell? (ad.add x1) = some (.int .u8 b1) ∧ w'.cell? (ad.add x2) = some (.int .u8 b2)) (ds := [18]) #[false, false, false, false, false, false, false, false, false, false, false, false, false, false, false, false, false, false, false] (by kernel_rfl) rfl rfl ⟨s1, s2⟩ (fun hHeld => ?_)
                  refine pure_ (i := 0) (N := some 76) (v := ?_) (a' := ?_) #[true, false, false, false, false, false, false, false, false, false, false, false, false, false, false, false, false, false, false] rfl rfl (by kernel_rfl) (fun _ _ _ h => h) (Or.inl ⟨by rfl, ?_⟩) ?_ ?_
                  rotate_left
                  · intro w'
                    go_simp
                    with_reducible rfl
                  rotate_left
                  · simp only [Act.put, List.setIfInBounds_toArray, List.set_cons_zero, List.set_cons_succ, i64_w, i32_w]
                    rfl
                  refine pure_ (i := 1) (N := some 77) (v := ?_) (a' := ?_) #[true, true, false, false, false, false, false, false, false, false, false, false, false, false, false, false, false, false, false] rfl rfl (by kernel_rfl) (fun _ _ _ h => h) (Or.inl ⟨by rfl, ?_⟩) ?_ ?_
                  rotate_left
                  · intro w'
                    go_simp
                    with_reducible rfl
                  rotate_left
                  · simp only [Act.put, List.setIfInBounds_toArray, List.set_cons_zero, List.set_cons_succ, i64_w, i32_w]
                    rfl
                  refine pure_ (i := 2) (N := some 78) (v := ?_) (a' := ?_) #[true, true, true, false, false, false, false, false, false, false, false, false, false, false, false, false, false, false, false] rfl rfl (by kernel_rfl) (fun _ _ _ h => h) (Or.inl ⟨by rfl, ?_⟩) ?_ ?_
                  rotate_left
                  · intro w'
                    go_simp
                    with_reducible rfl
                  rotate_left
                  · simp only [Act.put, List.setIfInBounds_toArray, List.set_cons_zero, List.set_cons_succ, i64_w, i32_w]
                    rfl
                  refine pure_ (i := 3) (N := some 79) (v := ?_) (a' := ?_) #[true, true, true, true, false, false, false, false, false, false, false, false, false, false, false, false, false, false, false] rfl rfl (by kernel_rfl) (fun _ _ _ h => h) (Or.inl ⟨by rfl, ?_⟩) ?_ ?_
                  rotate_left
                  · intro w'
                    go_simp
                    with_reducible rfl
                  rotate_left
                  · simp only [Act.put, List.setIfInBounds_toArray, List.set_cons_zero, List.set_cons_succ, i64_w, i32_w]
                    rfl
                  refine pure_ (i := 4) (N := some 80) (v := ?_) (a' := ?_) #[true, true, true, true, true, false, false, false, false, false, false, false, false, false, false, false, false, false, false] rfl rfl (by kernel_rfl) (fun _ _ _ h => h) (Or.inl ⟨by rfl, ?_⟩) ?_ ?_
                  rotate_left
                  · intro w'
                    go_simp
                    with_reducible rfl
                  rotate_left
                  · simp only [Act.put, List.setIfInBounds_toArray, List.set_cons_zero, List.set_cons_succ, i64_w, i32_w]
                    rfl
                  refine pure_ (i := 5) (N := some 81) (v := ?_) (a' := ?_) #[true, true, true, true, true, true, false, false, false, false, false, false, false, false, false, false, false, false, false] rfl rfl (by kernel_rfl) (fun _ _ _ h => h) (Or.inl ⟨by rfl, ?_⟩) ?_ ?_
                  rotate_left
                  · intro w'
                    go_simp
                    with_reducible rfl
                  rotate_left
                  · simp only [Act.put, List.setIfInBounds_toArray, List.set_cons_zero, List.set_cons_succ, i64_w, i32_w]
                    rfl
                  refine pure_ (i := 6) (N := some 82) (v := ?_) (a' := ?_) #[true, true, true, true, true, true, true, false, false, false, false, false, false, false, false, false, false, false, false] rfl rfl (by kernel_rfl) (fun _ _ _ h => h) (Or.inl ⟨by rfl, ?_⟩) ?_ ?_
                  rotate_left
                  · intro w'
                    go_simp
                    with_reducible rfl
                  rotate_left
                  · simp only [Act.put, List.setIfInBounds_toArray, List.set_cons_zero, List.set_cons_succ, i64_w, i32_w]
                    rfl
                  refine pure_ (i := 8) (N := some 84) (v := ?_) (a' := ?_) #[true, true, true, true, true, true, true, false, true, false, false, false, false, false, false, false, false, false, false] rfl rfl (by kernel_rfl) (fun _ _ _ h => h) (Or.inl ⟨by rfl, ?_⟩) ?_ ?_
                  rotate_left
                  · intro w'
                    go_simp
                    with_reducible rfl
                  rotate_left
                  · simp only [Act.put, List.setIfInBounds_toArray, List.set_cons_zero, List.set_cons_succ, i64_w, i32_w]
                    rfl
                  refine pure_ (i := 9) (N := some 85) (v := ?_) (a' := ?_) #[true, true, true, true, true, true, true, false, true, true, false, false, false, false, false, false, false, false, false] rfl rfl (by kernel_rfl) (fun _ _ _ h => h) (Or.inl ⟨by rfl, ?_⟩) ?_ ?_
                  rotate_left
                  · intro w'
                    go_simp
                    with_reducible rfl
                  rotate_left
                  · simp only [Act.put, List.setIfInBounds_toArray, List.set_cons_zero, List.set_cons_succ, i64_w, i32_w]
                    rfl
                  refine pure_ (i := 10) (N := some 86) (v := ?_) (a' := ?_) #[true, true, true, true, true, true, true, false, true, true, true, false, false, false, false, false, false, false, false] rfl rfl (by kernel_rfl) (fun _ _ _ h => h) (Or.inl ⟨by rfl, ?_⟩) ?_ ?_
                  rotate_left
                  · intro w'
                    go_simp
                    with_reducible rfl
                  rotate_left
                  · simp only [Act.put, List.setIfInBounds_toArray, List.set_cons_zero, List.set_cons_succ, i64_w, i32_w]
                    rfl
                  refine pure_ (i := 11) (N := some 87) (v := ?_) (a' := ?_) #[true, true, true, true, true, true, true, false, true, true, true, true, false, false, false, false, false, false, false] rfl rfl (by kernel_rfl) (fun _ _ _ h => h) (Or.inl ⟨by rfl, ?_⟩) ?_ ?_
                  rotate_left
                  · intro w'
                    go_simp
                    with_reducible rfl
                  rotate_left
                  · simp only [Act.put, List.setIfInBounds_toArray, List.set_cons_zero, List.set_cons_succ, i64_w, i32_w]
                    rfl
                  refine pure_ (i := 12) (N := some 88) (v := ?_) (a' := ?_) #[true, true, true, true, true, true, true, false, true, true, true, true, true, false, false, false, false, false, false] rfl rfl (by kernel_rfl) (fun _ _ _ h => h) (Or.inl ⟨by rfl, ?_⟩) ?_ ?_
                  rotate_left
                  · intro w'
                    go_simp
                    with_reducible rfl
                  rotate_left
                  · simp only [Act.put, List.setIfInBounds_toArray, List.set_cons_zero, List.set_cons_succ, i64_w, i32_w]
                    rfl
                  refine pure_ (i := 15) (N := some 91) (v := ?_) (a' := ?_) #[true, true, true, true, true, true, true, false, true, true, true, true, true, false, false, true, false, false, false] rfl rfl (by kernel_rfl) (fun _ _ _ h => h) (Or.inl ⟨by rfl, ?_⟩) ?_ ?_
                  rotate_left
                  · intro w'
                    go_simp
                    with_reducible rfl
                  rotate_left
                  · simp only [Act.put, List.setIfInBounds_toArray, List.set_cons_zero, List.set_cons_succ, i64_w, i32_w]
                    rfl
                  refine pure_ (i := 16) (N := some 92) (v := ?_) (a' := ?_) #[true, true, true, true, true, true, true, false, true, true, true, true, true, false, false, true, true, false, false] rfl rfl (by kernel_rfl) (fun _ _ _ h => h) (Or.inl ⟨by rfl, ?_⟩) ?_ ?_
                  rotate_left
                  · intro w'
                    go_simp
                    with_reducible rfl
                  rotate_left
                  · simp only [Act.put, List.setIfInBounds_toArray, List.set_cons_zero, List.set_cons_succ, i64_w, i32_w]
                    rfl
                  refine take_ (i := 7) (N := some 83) (v := ?_) (a' := ?_) #[true, true, true, true, true, true, true, true, true, true, true, true, true, false, false, true, true, false, false] rfl rfl (by kernel_rfl) (fun _ _ _ h => h) (Or.inl ⟨by rfl, ?_⟩) hHeld ?_ ?_
                  rotate_left
                  · rintro w' ⟨s0, s1⟩
                    go_simp
                    with_reducible rfl
                  rotate_left
                  · simp only [Act.put, List.setIfInBounds_toArray, List.set_cons_zero, List.set_cons_succ, i64_w, i32_w]
                    rfl
                  refine take_ (i := 13) (N := some 89) (v := ?_) (a' := ?_) #[true, true, true, true, true, true, true, true, true, true, true, true, true, true, false, true, true, false, false] rfl rfl (by kernel_rfl) (fun _ _ _ h => h) (Or.inl ⟨by rfl, ?_⟩) hHeld ?_ ?_
                  rotate_left
                  · rintro w' ⟨s0, s1⟩
                    go_simp
                    with_reducible rfl
                  rotate_left
                  · simp only [Act.put, List.setIfInBounds_toArray, List.set_cons_zero, List.set_cons_succ, i64_w, i32_w]
                    rfl
                  refine pure_ (i := 14) (N := some 90) (v := ?_) (a' := ?_) #[true, true, true, true, true, true, true, true, true, true, true, true, true, true, true, true, true, false, false] rfl rfl (by kernel_rfl) (fun _ _ _ h => h) (Or.inl ⟨by rfl, ?_⟩) ?_ ?_
                  rotate_left
                  · intro w'
                    go_simp
                    with_reducible rfl
                  rotate_left
                  · simp only [Act.put, List.setIfInBounds_toArray, List.set_cons_zero, List.set_cons_succ, i64_w, i32_w]
                    rfl
                  refine pure_ (i := 17) (N := some 93) (v := ?_) (a' := ?_) #[true, true, true, true, true, true, true, true, true, true, true, true, true, true, true, true, true, true, false] rfl rfl (by kernel_rfl) (fun _ _ _ h => h) (Or.inl ⟨by rfl, ?_⟩) ?_ ?_
                  rotate_left
                  · intro w'
                    go_simp
                    with_reducible rfl
                  rotate_left
                  · simp only [Act.put, List.setIfInBounds_toArray, List.set_cons_zero, List.set_cons_succ, i64_w, i32_w]
                    rfl
                  refine last_ (i := 18) (N := none) #[true, true, true, true, true, true, true, true, true, true, true, true, true, true, true, true, true, true, true] rfl rfl (by kernel_rfl) (by decide) (fun K hK => ?_)
                  refine skip_ (w1 := ?_) (by rfl) rfl ?_ ?_
                  rotate_left
                  · go_simp
                    rfl
                  refine hK.out _ _ ?_
                  clear hK K
                  refine done_ (by kernel_rfl) ?_
                  have F1b : Chunk ((wr.setCell ⟨w.heap.size, i * 2, none⟩ (.int .u8 b1)).setCell ⟨w.heap.size, i * 2 + 1, none⟩ (.int .u8 b2)).drew w.heap.size ((halfC b cs i).set i (b1, b2)) (halfL ls i) (.slice none 0 0) := F1.out.below (below_drew (Below.refl _ _)) F1.out.lt
                  have B1b : Below w.heap.size w ((wr.setCell ⟨w.heap.size, i * 2, none⟩ (.int .u8 b1)).setCell ⟨w.heap.size, i * 2 + 1, none⟩ (.int .u8 b2)).drew := below_drew (Below.setCell (Below.setCell HLP.out.below (Nat.le_refl _) _) (Nat.le_refl _) _)
                  have K1b : ∀ k, k ≠ w.heap.size → k < wb.heap.size → ((wr.setCell ⟨w.heap.size, i * 2, none⟩ (.int .u8 b1)).setCell ⟨w.heap.size, i * 2 + 1, none⟩ (.int .u8 b2)).drew.heap[k]? = wb.heap[k]? := fun k hk hl =>
                    (Below.heap_setCell _ ⟨w.heap.size, i * 2 + 1, none⟩ _ k hk).trans ((Below.heap_setCell wr ⟨w.heap.size, i * 2, none⟩ _ k hk).trans (HLP.out.far k hk hl))
                  generalize ((wr.setCell ⟨w.heap.size, i * 2, none⟩ (.int .u8 b1)).setCell ⟨w.heap.size, i * 2 + 1, none⟩ (.int .u8 b2)).drew = w6 at F1b B1b K1b ⊢
                  clear c0 c1 cf0 cf1 s1 s2 f1 f2 f3 f4 f5 f6 f7 p3 p4 p5 p6
                  obtain ⟨y, hy⟩ : ∃ y : Nat, ls.getD i 0 = (y : Int) := ⟨(ls.getD i 0).toNat, by have := hr1 ls HLB.out i; omega⟩
                  have hy8 : y < 256 := by have := hr1 ls HLB.out i; omega
                  have s1 : w6.cell? ⟨g6, i, none⟩ = some (.int .u8 (y : Int)) := by
                    have h6 := HQ6b.out i hlt
                    rw [hy] at h6
                    rw [← h6]
                    unfold World.cell?
                    rw [K1b g6 (by omega) (World.block_lt_of_cell? wb ⟨g6, i, none⟩ h6)]
                  have HY := Lib.hid hy
                  obtain ⟨c0, c1⟩ := F1b.atL i hlt
                  have cf0 := F1b.frz (8192 + i * 2)
                  have cf1 := F1b.frz (8192 + i * 2 + 1)
                  have F2 := Lib.hid (F1b.setL i hlt (lightOf (y : Int)))
                  have HB1b := Lib.hid B1b
                  have HK1b := Lib.hid K1b
                  clear F1b B1b K1b hy
                  go_wp2_with fail
                  have e15 := and15 y hy8
                  refine start_ (n := 17) (S := fun w' => w'.cell? ⟨g6, i, none⟩ = some (.int .u8 (y : Int))) (ds := [16]) #[false, false, false, false, false, false, false, false, false, false, false, false, false, false, false, false, false] (by kernel_rfl) rfl rfl (s1) (fun hHeld => ?_)
                  refine pure_ (i := 0) (N := some 94) (v := ?_) (a' := ?_) #[true, false, false, false, false, false, false, false, false, false, false, false, false, false, false, false, false] rfl rfl (by kernel_rfl) (fun _ _ _ h => h) (Or.inl ⟨by rfl, ?_⟩) ?_ ?_
                  rotate_left
                  · intro w'
                    go_simp
                    with_reducible rfl
                  rotate_left
                  · simp only [Act.put, List.setIfInBounds_toArray, List.set_cons_zero, List.set_cons_succ, i64_w, i32_w]
                    rfl
                  refine pure_ (i := 1) (N := some 95) (v := ?_) (a' := ?_) #[true, true, false, false, false, false, false, false, false, false, false, false, false, false, false, false, false] rfl rfl (by kernel_rfl) (fun _ _ _ h => h) (Or.inl ⟨by rfl, ?_⟩) ?_ ?_
                  rotate_left
                  · intro w'
                    go_simp
                    with_reducible rfl
                  rotate_left
                  · simp only [Act.put, List.setIfInBounds_toArray, List.set_cons_zero, List.set_cons_succ, i64_w, i32_w]
                    rfl
                  refine pure_ (i := 2) (N := some 96) (v := ?_) (a' := ?_) #[true, true, true, false, false, false, false, false, false, false, false, false, false, false, false, false, false] rfl rfl (by kernel_rfl) (fun _ _ _ h => h) (Or.inl ⟨by rfl, ?_⟩) ?_ ?_
                  rotate_left
                  · intro w'
                    go_simp
                    with_reducible rfl
                  rotate_left
                  · simp only [Act.put, List.setIfInBounds_toArray, List.set_cons_zero, List.set_cons_succ, i64_w, i32_w]
                    rfl
                  refine pure_ (i := 3) (N := some 97) (v := ?_) (a' := ?_) #[true, true, true, true, false, false, false, false, false, false, false, false, false, false, false, false, false] rfl rfl (by kernel_rfl) (fun _ _ _ h => h) (Or.inl ⟨by rfl, ?_⟩) ?_ ?_
                  rotate_left
                  · intro w'
                    go_simp
                    with_reducible rfl
                  rotate_left
                  · simp only [Act.put, List.setIfInBounds_toArray, List.set_cons_zero, List.set_cons_succ, i64_w, i32_w]
                    rfl
                  refine pure_ (i := 4) (N := some 98) (v := ?_) (a' := ?_) #[true, true, true, true, true, false, false, false, false, false, false, false, false, false, false, false, false] rfl rfl (by kernel_rfl) (fun _ _ _ h => h) (Or.inl ⟨by rfl, ?_⟩) ?_ ?_
                  rotate_left
                  · intro w'
                    go_simp
                    with_reducible rfl
                  rotate_left
                  · simp only [Act.put, List.setIfInBounds_toArray, List.set_cons_zero, List.set_cons_succ, i64_w, i32_w]
                    rfl
                  refine pure_ (i := 7) (N := some 101) (v := ?_) (a' := ?_) #[true, true, true, true, true, false, false, true, false, false, false, false, false, false, false, false, false] rfl rfl (by kernel_rfl) (fun _ _ _ h => h) (Or.inl ⟨by rfl, ?_⟩) ?_ ?_
                  rotate_left
                  · intro w'
                    go_simp
                    with_reducible rfl
                  rotate_left
                  · simp only [Act.put, List.setIfInBounds_toArray, List.set_cons_zero, List.set_cons_succ, i64_w, i32_w]
                    rfl
                  refine pure_ (i := 8) (N := some 102) (v := ?_) (a' := ?_) #[true, true, true, true, true, false, false, true, true, false, false, false, false, false, false, false, false] rfl rfl (by kernel_rfl) (fun _ _ _ h => h) (Or.inl ⟨by rfl, ?_⟩) ?_ ?_
                  rotate_left
                  · intro w'
                    go_simp
                    with_reducible rfl
                  rotate_left
                  · simp only [Act.put, List.setIfInBounds_toArray, List.set_cons_zero, List.set_cons_succ, i64_w, i32_w]
                    rfl
                  refine pure_ (i := 9) (N := some 103) (v := ?_) (a' := ?_) #[true, true, true, true, true, false, false, true, true, true, false, false, false, false, false, false, false] rfl rfl (by kernel_rfl) (fun _ _ _ h => h) (Or.inl ⟨by rfl, ?_⟩) ?_ ?_
                  rotate_left
                  · intro w'
                    go_simp
                    with_reducible rfl
                  rotate_left
                  · simp only [Act.put, List.setIfInBounds_toArray, List.set_cons_zero, List.set_cons_succ, i64_w, i32_w]
                    rfl
                  refine pure_ (i := 13) (N := some 107) (v := ?_) (a' := ?_) #[true, true, true, true, true, false, false, true, true, true, false, false, false, true, false, false, false] rfl rfl (by kernel_rfl) (fun _ _ _ h => h) (Or.inl ⟨by rfl, ?_⟩) ?_ ?_
                  rotate_left
                  · intro w'
                    go_simp
                    with_reducible rfl
                  rotate_left
                  · simp only [Act.put, List.setIfInBounds_toArray, List.set_cons_zero, List.set_cons_succ, i64_w, i32_w]
                    rfl
                  refine pure_ (i := 14) (N := some 108) (v := ?_) (a' := ?_) #[true, true, true, true, true, false, false, true, true, true, false, false, false, true, true, false, false] rfl rfl (by kernel_rfl) (fun _ _ _ h => h) (Or.inl ⟨by rfl, ?_⟩) ?_ ?_
                  rotate_left
                  · intro w'
                    go_simp
                    with_reducible rfl
                  rotate_left
                  · simp only [Act.put, List.setIfInBounds_toArray, List.set_cons_zero, List.set_cons_succ, i64_w, i32_w]
                    rfl
                  refine take_ (i := 5) (N := some 99) (v := ?_) (a' := ?_) #[true, true, true, true, true, true, false, true, true, true, false, false, false, true, true, false, false] rfl rfl (by kernel_rfl) (fun _ _ _ h => h) (Or.inl ⟨by rfl, ?_⟩) hHeld ?_ ?_
                  rotate_left
                  · intro w' s0
                    go_simp
                    with_reducible rfl
                  rotate_left
                  · simp only [Act.put, List.setIfInBounds_toArray, List.set_cons_zero, List.set_cons_succ, i64_w, i32_w]
                    rfl
                  refine pure_ (i := 6) (N := some 100) (v := ?_) (a' := ?_) #[true, true, true, true, true, true, true, true, true, true, false, false, false, true, true, false, false] rfl rfl (by kernel_rfl) (fun _ _ _ h => h) (Or.inl ⟨by rfl, ?_⟩) ?_ ?_
                  rotate_left
                  · intro w'
                    go_simp
                    with_reducible rfl
                  rotate_left
                  · simp only [Act.put, List.setIfInBounds_toArray, List.set_cons_zero, List.set_cons_succ, i64_w, i32_w]
                    rfl
                  refine take_ (i := 10) (N := some 104) (v := ?_) (a' := ?_) #[true, true, true, true, true, true, true, true, true, true, true, false, false, true, true, false, false] rfl rfl (by kernel_rfl) (fun _ _ _ h => h) (Or.inl ⟨by rfl, ?_⟩) hHeld ?_ ?_
                  rotate_left
                  · intro w' s0
                    go_simp
                    with_reducible rfl
                  rotate_left
                  · simp only [Act.put, List.setIfInBounds_toArray, List.set_cons_zero, List.set_cons_succ, i64_w, i32_w]
                    rfl
                  refine pure_ (i := 11) (N := some 105) (v := ?_) (a' := ?_) #[true, true, true, true, true, true, true, true, true, true, true, true, false, true, true, false, false] rfl rfl (by kernel_rfl) (fun _ _ _ h => h) (Or.inl ⟨by rfl, ?_⟩) ?_ ?_
                  rotate_left
                  · intro w'
                    go_simp
                    with_reducible rfl
                  rotate_left
                  · simp only [Act.put, List.setIfInBounds_toArray, List.set_cons_zero, List.set_cons_succ, i64_w, i32_w]
                    rfl
                  refine pure_ (i := 12) (N := some 106) (v := ?_) (a' := ?_) #[true, true, true, true, true, true, true, true, true, true, true, true, true, true, true, false, false] rfl rfl (by kernel_rfl) (fun _ _ _ h => h) (Or.inl ⟨by rfl, ?_⟩) ?_ ?_
                  rotate_left
                  · intro w'
                    go_simp
                    with_reducible rfl
                  rotate_left
                  · simp only [Act.put, List.setIfInBounds_toArray, List.set_cons_zero, List.set_cons_succ, i64_w, i32_w]
                    rfl
                  refine pure_ (i := 15) (N := some 109) (v := ?_) (a' := ?_) #[true, true, true, true, true, true, true, true, true, true, true, true, true, true, true, true, false] rfl rfl (by kernel_rfl) (fun _ _ _ h => h) (Or.inl ⟨by rfl, ?_⟩) ?_ ?_
                  rotate_left
                  · intro w'
                    go_simp
                    with_reducible rfl
                  rotate_left
                  · simp only [Act.put, List.setIfInBounds_toArray, List.set_cons_zero, List.set_cons_succ, i64_w, i32_w]
                    rfl
                  refine last_ (i := 16) (N := none) #[true, true, true, true, true, true, true, true, true, true, true, true, true, true, true, true, true] rfl rfl (by kernel_rfl) (by decide) (fun K hK => ?_)
                  refine skip_ (w1 := ?_) (by rfl) rfl ?_ ?_
                  rotate_left
                  · go_simp
                    rfl
                  refine hK.out _ _ ?_
                  clear hK K
                  refine done_ (by kernel_rfl) ?_
                  have F2b : Chunk ((w6.setCell ⟨w.heap.size, 8192 + i * 2, none⟩ (.int .u8 ((y : Int) / 16))).setCell ⟨w.heap.size, 8192 + i * 2 + 1, none⟩ (.int .u8 ((y : Int) % 16))).drew w.heap.size (halfC b cs (i + 1)) (halfL ls (i + 1)) (.slice none 0 0) := by
                    have h := F2.out.below (below_drew (Below.refl _ _)) F2.out.lt
                    have h1 := half_set (palAt b) cs HCL.out i hlt
                    have h2 := half_set lightOf ls HLL.out i hlt
                    rw [HPA.out] at h1
                    rw [HY.out] at h2
                    unfold halfC halfL at h ⊢
                    rw [h1, h2] at h
                    exact h
                  have B2b : Below w.heap.size w ((w6.setCell ⟨w.heap.size, 8192 + i * 2, none⟩ (.int .u8 ((y : Int) / 16))).setCell ⟨w.heap.size, 8192 + i * 2 + 1, none⟩ (.int .u8 ((y : Int) % 16))).drew := below_drew (Below.setCell (Below.setCell HB1b.out (Nat.le_refl _) _) (Nat.le_refl _) _)
                  have K2b : ∀ k, k ≠ w.heap.size → k < wb.heap.size → ((w6.setCell ⟨w.heap.size, 8192 + i * 2, none⟩ (.int .u8 ((y : Int) / 16))).setCell ⟨w.heap.size, 8192 + i * 2 + 1, none⟩ (.int .u8 ((y : Int) % 16))).drew.heap[k]? = wb.heap[k]? := fun k hk hl =>
                    (Below.heap_setCell _ ⟨w.heap.size, 8192 + i * 2 + 1, none⟩ _ k hk).trans ((Below.heap_setCell w6 ⟨w.heap.size, 8192 + i * 2, none⟩ _ k hk).trans (HK1b.out k hk hl))
                  generalize ((w6.setCell ⟨w.heap.size, 8192 + i * 2, none⟩ (.int .u8 ((y : Int) / 16))).setCell ⟨w.heap.size, 8192 + i * 2 + 1, none⟩ (.int .u8 ((y : Int) % 16))).drew = w7 at F2b B2b K2b ⊢
                  have HG := Lib.hid (⟨B2b, K2b, F2b⟩ : Lp w wb w7 b cs ls (i + 1))
                  clear F2b B2b K2b c0 c1 cf0 cf1 s1 e15 F1 F2
                  go_wp2
                  go_roundw
                  case rel => exact ⟨i + 1, by omega, by go_num, ⟨HG.out⟩⟩
                  case measure => simp [intOf]; omega
                · have d5 := decide_eq_true (show (k : Int) ≤ (x : Int) by omega)
                  have hF := Lib.hid (show ∀ C L T, ¬ Pk b C L T from fun C L T h => by
                    obtain ⟨⟨h1, _⟩, h2⟩ := HP2.out C L T h
                    have hm : (cs.getD i 0) ∈ cs := by
                      rw [List.getD_eq_getElem?_getD, List.getElem?_eq_getElem (by rw [HCL.out]; exact hlt)]
                      exact List.getElem_mem _
                    rw [HX.out, h1] at hm
                    have := h.below _ hm
                    omega)
                  go_wp2
                  go_step3
                  exact ⟨rfl, rfl, rfl, hF.out, HLP.out.below⟩
              · obtain rfl : i = 4096 := by omega
                have hC : halfC b cs 4096 = cs.map (palAt b) := by
                  unfold halfC
                  rw [List.take_of_length_le (by rw [HCL.out]; exact Nat.le_refl _), Nat.sub_self]
                  simp
                have hL : halfL ls 4096 = ls.map lightOf := by
                  unfold halfL
                  rw [List.take_of_length_le (by rw [HLL.out]; exact Nat.le_refl _), Nat.sub_self]
                  simp
                have hch := HLP.out.ch
                rw [hC, hL] at hch
                have HCH := Lib.hid hch
                have HBR := Lib.hid HLP.out.below
                obtain ⟨Cf, hCf⟩ : ∃ Cf, cs.map (palAt b) = Cf := ⟨_, rfl⟩
                obtain ⟨Lf, hLf⟩ : ∃ Lf, ls.map lightOf = Lf := ⟨_, rfl⟩
                rw [hCf, hLf] at HCH
                have HP3 := Lib.hid (show ∀ C L T, Pk b C L T → C = Cf ∧ L = Lf ∧ r2 = tailT T from fun C L T h => by
                  obtain ⟨⟨h1, h2, h3⟩, _⟩ := HP2.out C L T h
                  exact ⟨by rw [← hCf, h1, h.cells], by rw [← hLf, h2, h.light], h3⟩)
                have HUC := Lib.hid (show U8 Cf from fun p hp => by
                  rw [← hCf] at hp
                  obtain ⟨x, _, rfl⟩ := List.mem_map.1 hp
                  exact ⟨hr1 b HB.out _, hr1 b HB.out _⟩)
                have HUL := Lib.hid (show U8 Lf from fun p hp => by
                  rw [← hLf] at hp
                  obtain ⟨x, hx, rfl⟩ := List.mem_map.1 hp
                  have := HLB.out x hx
                  unfold lightOf
                  simp only
                  omega)
                clear hC hL hch hCf hLf HLP HP2
                obtain ⟨A3, hcut3, hrd3, hA3⟩ := cutFrom (some ad) b c at3 hat3l HC.out
                have hne := Lib.hid (fun W (h : Below w.heap.size w W) => (show Calls Try.prog 31 #[.slice A3 (b.length - at3) (c - at3)] W fun e w' => ∃ g, e = .returned (.pointer (some ⟨g, 0, none⟩)) ∧ W.heap.size ≤ g ∧ BQ.Rdr (fun k => W.heap.size ≤ k ∧ k < g) w' g r2 false ∧ Below W.heap.size W w' from by
                  have := BQ.new_calls A3 (c - at3) (b.drop at3) W (hrd3 W (HR.out.below h)) (by rw [List.length_drop]; have := HC.out; omega) (HB.out.drop _) (by rw [List.length_drop]; omega)
                  rw [HD3.out, HR2.out] at this
                  exact this))
                clear hrd3 hA3 d0 i0 e1 e2 hlen
                go_wp2_with fail
                refine (hne.out _ HBR.out).mono ?_; rintro e w9 ⟨rg, rfl, hrg, hrd, hb9⟩
                have HB9 := Lib.hid (below_step HBR.out hb9)
                have HC9 := Lib.hid (HCH.out.below hb9 HCH.out.lt)
                have HRD := Lib.hid hrd
                have hrgl : rg < w9.heap.size := hrd.lt
                have hrg1 : w.heap.size < rg := by have := HCH.out.lt; omega
                have hNum := Lib.hid (BQ.num_calls rg r2 false w9 hrd)
                have hr9 := hr1
                obtain ⟨n8, hn8⟩ : ∃ n8, wr.heap.size = n8 := ⟨_, rfl⟩
                have hn8l : w.heap.size < n8 := by have := HCH.out.lt; omega
                rw [hn8] at HRD hNum hrg
                have HTS := Lib.hid (TS.start (b := b) (X := r2) (fun C L T h => (HP3.out C L T h).2.2))
                have hnr := rNum_lt r2 false (show Bytes r2 from by rw [← HD3.out]; exact HB.out.drop _)
                obtain ⟨⟨m0, s0⟩, hms⟩ : ∃ q, rNum (r2, false) = q := ⟨_, rfl⟩
                rw [hms] at hNum HTS hnr
                simp only at hNum HTS hnr
                clear hcut3 hne hb9 hrd hms hn8 HCH HCHb HQ5b HQ6b hg5 hg5l hg6 hg6l hg6n hc5 hc6 hwab hi z1 z2 z3 hat1l hat2l hat3l hk8 hk1 d1 hr9
                go_wp2_with fail
                refine hNum.out.mono ?_; rintro e w10 ⟨rfl, hrd, hg⟩
                have HT0 := Lib.hid (⟨belowg HB9.out hg HB9.out.size (by omega), hrd, HC9.out.grown hg (by simp; omega), Kd.R_nil _ _ _ _ _, HTS.out⟩ : Tl w w10 n8 rg b Cf Lf [] s0 (.slice none 0 0) m0 (-1))
                clear hrd hg hNum HB9 HC9 HRD HTS hrgl
                go_wp2_with fail
                obtain ⟨w8, hw8⟩ : ∃ w8, w8 = wr := ⟨_, rfl⟩
                go_loopw [10, 11] (fun av mv W => ∃ (T : List Pr) (at_ : Int) (m : Nat) (s : St) (v : Value), av = .int .i64 at_ ∧ mv = .int .u64 (m : Int) ∧ m < 18446744073709551616 ∧ (-1 ≤ at_ ∧ at_ ≤ 4097 * (T.length : Int)) ∧ T.length ≤ 4097 ∧ Aside0 (Tl w W n8 rg b Cf Lf T s v m at_)) (fun _ mv _ => (intOf mv).toNat)
                case atStart => exact ⟨[], -1, m0, s0, _, rfl, rfl, hnr, by simp, by simp, ⟨HT0.out⟩⟩
                case round =>
                  obtain ⟨T, at_, m, s, v, rfl, rfl, hm64, hatb, hTl, ⟨htl⟩⟩ := hrel
                  have HL := Lib.hid htl
                  clear htl
                  by_cases hm : 0 < m
                  · have d2 := decide_eq_true (show (0 : Int) < (m : Int) by omega)
                    have d2' := decide_eq_true (show 0 < m by omega)
                    have HE := Lib.hid (BQ.err_calls rg s.1 s.2 wr HL.out.rdr)
                    cases hs2 : s.2 with
                    | true =>
                      rw [hs2] at HE
                      have HST := Lib.hid (HL.out.ts.stop (.inr (.inl hs2)))
                      clear hs2
                      go_wp2_with fail
                      refine HE.out.mono ?_; rintro e w11 ⟨rfl, ⟨nd, rfl⟩⟩
                      have HL2 := Lib.hid (HL.out.under (pw_below_drewN (Below.refl _ _) nd))
                      clear HL
                      obtain ⟨A9, c9, hv9, hc9, hC9⟩ := Kd.R_reads HL2.out.tk
                      first | subst hv9 | (have hv8 := hv9.symm; simp only [Value.slice.injEq, true_and] at hv8; obtain ⟨hv6, hv7⟩ := hv8; subst hv6 hv7; clear hv9)
                      have hFs := Lib.hid (show ∀ C L T', Pk b C L T' → C = Cf ∧ L = Lf ∧ T' = T from fun C L T' h => ⟨(HP3.out C L T' h).1, (HP3.out C L T' h).2.1, HST.out C L T' h⟩)
                      have hlen9 : T.length ≤ 1000000 := by omega
                      cases hm0 : mayB Cf Lf T with
                      | false =>
                        have hput := Lib.hid (pput_no _ _ _ _ A9 c9 _ HL2.out.ch hC9 HUC.out HUL.out (by omega) hm0)
                        have hF := Lib.hid (show ∀ C L T', ¬ Pk b C L T' from fun C L T' h => by
                          obtain ⟨rfl, rfl, rfl⟩ := hFs.out C L T' h
                          rw [h.may] at hm0
                          cases hm0)
                        clear hm0 hC9 hc9
                        go_wp2_with fail
                        refine hput.out.mono ?_; rintro e wp ⟨rfl, hbp⟩
                        have HBP := Lib.hid (below_step HL2.out.below hbp)
                        clear hbp hput
                        go_wp2
                        go_step3
                        go_wp2
                        simp only [Exit.jump]
                        go_ret2
                        exact ⟨.inl ⟨rfl, hF.out⟩, HBP.out⟩
                      | true =>
                        have hput := Lib.hid (pput_calls _ _ _ _ A9 c9 _ HL2.out.ch hC9 HUC.out HUL.out hlen9 hm0)
                        have hPB := Lib.hid (pack_bytes HUC.out HUL.out HL2.out.ch.lenC HL2.out.ch.lenL hm0)
                        have HM0 := Lib.hid hm0
                        have HTK := Lib.hid (show TK _ (.slice A9 T.length c9) T from ⟨A9, c9, rfl, hc9, hC9⟩)
                        clear hm0 hC9 hc9
                        go_wp2_with fail
                        refine hput.out.mono ?_; rintro e wp ⟨vp, rfl, hop, hbp⟩
                        obtain ⟨Ap, cp, rfl, hcp, hrp⟩ := OB.slice hop
                        have HLp := Lib.hid (HL2.out.under hbp)
                        have HTKp := Lib.hid (show TK wp (.slice A9 T.length c9) T from by
                          obtain ⟨A, c, e1, e2, e3⟩ := HTK.out
                          exact ⟨A, c, e1, e2, Kd.C_below e3 hbp⟩)
                        have heq := Lib.hid (equal_calls Ap (some ad) cp c (packB Cf Lf T) b wp hrp hcp (HR.out.below HLp.out.below) HC.out hPB.out HB.out)
                        clear hop hcp hrp hbp hput
                        go_wp2_with fail
                        refine heq.out.mono ?_; rintro e wq ⟨rfl, ⟨nq, rfl⟩⟩
                        by_cases hpb : packB Cf Lf T = b
                        · have hd9 : decide (packB Cf Lf T = b) = true := decide_eq_true hpb
                          have HPK := Lib.hid (⟨HLp.out.ch.lenC, HLp.out.ch.lenL, HUC.out, HUL.out, HM0.out, hpb⟩ : Pk b Cf Lf T)
                          clear hpb
                          go_wp2
                          simp only [Exit.jump]
                          go_ret2
                          exact ⟨.inr ⟨Cf, Lf, T, _, rfl, HLp.out.ch.below (pw_below_drewN (Below.refl _ _) _) HLp.out.ch.lt, (by
                            obtain ⟨A, c, e1, e2, e3⟩ := HTKp.out
                            exact ⟨A, c, e1, e2, Kd.C_below e3 (pw_below_drewN (Below.refl _ _) _)⟩), HPK.out⟩, pw_below_drewN HLp.out.below _⟩
                        · have hd9 : decide (packB Cf Lf T = b) = false := decide_eq_false hpb
                          have hF := Lib.hid (show ∀ C L T', ¬ Pk b C L T' from fun C L T' h => by
                            obtain ⟨rfl, rfl, rfl⟩ := hFs.out C L T' h
                            exact hpb h.eq)
                          clear hpb
                          go_wp2
                          go_step3
                          go_wp2
                          simp only [Exit.jump]
                          go_ret2
                          exact ⟨.inl ⟨rfl, hF.out⟩, pw_below_drewN HLp.out.below _⟩
                    | false =>
                      rw [hs2] at HE
                      have Hs2 := Lib.hid hs2
                      clear hs2
                      obtain ⟨A7, c7, rfl, hc7, hC7⟩ := Kd.R_reads HL.out.tk
                      clear hC7
                      go_wp2_with fail
                      refine HE.out.mono ?_; rintro e w11 ⟨rfl, ⟨nd, rfl⟩⟩
                      have HL2 := Lib.hid (HL.out.under (pw_below_drewN (Below.refl _ _) nd))
                      clear HL
                      have t7 := HL2.out.ch.atT
                      by_cases hfew : T.length ≤ 4096
                      · have d3 := decide_eq_true (show (T.length : Int) ≤ 4096 by omega)
                        have hb1 : Bytes s.1 := HL2.out.rdr.bytes
                        have hNum := Lib.hid (BQ.num_calls rg s.1 s.2 _ HL2.out.rdr)
                        have hn1 := rNum_lt s.1 s.2 hb1
                        have HTS := HL2.out.ts.step (by omega)
                        obtain ⟨⟨n1, s1⟩, hs1⟩ : ∃ q, rNum (s.1, s.2) = q := ⟨_, rfl⟩
                        rw [hs1] at hNum HTS hn1
                        simp only at hNum HTS hn1
                        obtain ⟨e1, he1⟩ : ∃ e1 : Nat, e1 = min n1 4096 := ⟨_, rfl⟩
                        have he1l : e1 ≤ 4096 := by omega
                        have k1 : (if (4096 : Int) < (n1 : Int) then (4096 : Int) else (n1 : Int)) = (e1 : Int) := by split <;> omega
                        rw [← he1] at HTS
                        obtain ⟨a1, ha1⟩ : ∃ a1 : Int, at_ + (1 + (e1 : Int)) = a1 := ⟨_, rfl⟩
                        have ha1b : -1 ≤ a1 ∧ a1 ≤ 4097 * ((T.length : Int) + 1) := by omega
                        rw [ha1] at HTS
                        have HTS1 := Lib.hid HTS
                        clear he1 hs1 HTS
                        go_wp2_with fail
                        refine hNum.out.mono ?_; rintro e w11 ⟨rfl, hrd1, hg1⟩
                        have HC1 := Lib.hid (HL2.out.ch.grown hg1 (by simp; omega))
                        have HT1 := Lib.hid (Kd.R_grown HL2.out.tk hg1 (fun k hk => by simp; omega))
                        have HB1 := Lib.hid (belowg HL2.out.below hg1 HL2.out.below.size (by omega))
                        have HRD1 := Lib.hid hrd1
                        clear hrd1 hg1 hNum t7
                        go_wp2_with fail
                        clear k1 ha1
                        have hNum2 := Lib.hid (BQ.num_calls rg s1.1 s1.2 w11.drew (HRD1.out.below (below_drew (Below.refl _ _))))
                        have hb2 : Bytes s1.1 := HRD1.out.bytes
                        have hn2 := rNum_lt s1.1 s1.2 hb2
                        have HTS2 := HTS1.out
                        obtain ⟨⟨n2, s2⟩, hs2⟩ : ∃ q, rNum (s1.1, s1.2) = q := ⟨_, rfl⟩
                        rw [show rNum s1 = rNum (s1.1, s1.2) from rfl, hs2] at HTS2
                        rw [hs2] at hNum2 hn2
                        simp only at hNum2 hn2 HTS2
                        obtain ⟨e2, he2⟩ : ∃ e2 : Nat, e2 = min n2 2199023255553 := ⟨_, rfl⟩
                        have he2l : e2 ≤ 2199023255553 := by omega
                        have k2 : (if (2199023255553 : Int) < (n2 : Int) then (2199023255553 : Int) else (n2 : Int)) = (e2 : Int) := by split <;> omega
                        rw [← he2] at HTS2
                        have HTS3 := Lib.hid HTS2
                        have t8 := (HC1.out.below (below_drew (Below.refl w11.heap.size w11)) HC1.out.lt).atT
                        clear he2 hs2 HTS2 hb2
                        have k4 : wrap64 (e2 : Int) = (e2 : Int) := w64n _ (by omega)
                        obtain ⟨m1, hm1⟩ : ∃ m1 : Nat, m = m1 + 1 := ⟨m - 1, by omega⟩
                        rw [show m - 1 = m1 by omega] at HTS3
                        have k5 : IntKind.u64.wrap ((m : Int) - 1) = (m1 : Int) := by rw [show (m : Int) - 1 = (m1 : Int) by omega]; exact CF.wu64_id _ (by omega) (by omega)
                        have k6 : (m : Int) - 1 = (m1 : Int) := by omega
                        have hm1l : m1 < 18446744073709551616 := by omega
                        have Hm1 := Lib.hid hm1
                        clear hm1
                        refine start_ (n := 16) (S := fun w' => w'.cell? ⟨w.heap.size, 16384, none⟩ = some (.slice A7 T.length c7)) (ds := [15]) #[false, false, false, false, false, false, false, false, false, false, false, false, false, false, false, false] (by kernel_rfl) rfl rfl (t8) (fun hHeld => ?_)
                        refine pure_ (i := 0) (N := some 143) (v := ?_) (a' := ?_) #[true, false, false, false, false, false, false, false, false, false, false, false, false, false, false, false] rfl rfl (by kernel_rfl) (fun _ _ _ h => h) (Or.inl ⟨by rfl, ?_⟩) ?_ ?_
                        rotate_left
                        · intro w'
                          go_simp
                          with_reducible rfl
                        rotate_left
                        · simp only [Act.put, List.setIfInBounds_toArray, List.set_cons_zero, List.set_cons_succ, i64_w, i32_w]
                          rfl
                        refine pure_ (i := 1) (N := some 144) (v := ?_) (a' := ?_) #[true, true, false, false, false, false, false, false, false, false, false, false, false, false, false, false] rfl rfl (by kernel_rfl) (fun _ _ _ h => h) (Or.inl ⟨by rfl, ?_⟩) ?_ ?_
                        rotate_left
                        · intro w'
                          go_simp
                          with_reducible rfl
                        rotate_left
                        · simp only [Act.put, List.setIfInBounds_toArray, List.set_cons_zero, List.set_cons_succ, i64_w, i32_w]
                          rfl
                        refine pure_ (i := 2) (N := some 145) (v := ?_) (a' := ?_) #[true, true, true, false, false, false, false, false, false, false, false, false, false, false, false, false] rfl rfl (by kernel_rfl) (fun _ _ _ h => h) (Or.inl ⟨by rfl, ?_⟩) ?_ ?_
                        rotate_left
                        · intro w'
                          go_simp
                          with_reducible rfl
                        rotate_left
                        · simp only [Act.put, List.setIfInBounds_toArray, List.set_cons_zero, List.set_cons_succ, i64_w, i32_w]
                          rfl
                        refine pure_ (i := 3) (N := some 146) (v := ?_) (a' := ?_) #[true, true, true, true, false, false, false, false, false, false, false, false, false, false, false, false] rfl rfl (by kernel_rfl) (fun _ _ _ h => h) (Or.inl ⟨by rfl, ?_⟩) ?_ ?_
                        rotate_left
                        · intro w'
                          go_simp
                          with_reducible rfl
                        rotate_left
                        · simp only [Act.put, List.setIfInBounds_toArray, List.set_cons_zero, List.set_cons_succ, i64_w, i32_w]
                          rfl
                        refine pure_ (i := 5) (N := some 148) (v := ?_) (a' := ?_) #[true, true, true, true, false, true, false, false, false, false, false, false, false, false, false, false] rfl rfl (by kernel_rfl) (fun _ _ _ h => h) (Or.inl ⟨by rfl, ?_⟩) ?_ ?_
                        rotate_left
                        · intro w'
                          go_simp
                          with_reducible rfl
                        rotate_left
                        · simp only [Act.put, List.setIfInBounds_toArray, List.set_cons_zero, List.set_cons_succ, i64_w, i32_w]
                          rfl
                        refine pure_ (i := 6) (N := some 149) (v := ?_) (a' := ?_) #[true, true, true, true, false, true, true, false, false, false, false, false, false, false, false, false] rfl rfl (by kernel_rfl) (fun _ _ _ h => h) (Or.inl ⟨by rfl, ?_⟩) ?_ ?_
                        rotate_left
                        · intro w'
                          go_simp
                          with_reducible rfl
                        rotate_left
                        · simp only [Act.put, List.setIfInBounds_toArray, List.set_cons_zero, List.set_cons_succ, i64_w, i32_w]
                          rfl
                        refine take_ (i := 4) (N := some 147) (v := ?_) (a' := ?_) #[true, true, true, true, true, true, true, false, false, false, false, false, false, false, false, false] rfl rfl (by kernel_rfl) (fun _ _ _ h => h) (Or.inl ⟨by rfl, ?_⟩) hHeld ?_ ?_
                        rotate_left
                        · intro w' s0
                          go_simp
                          with_reducible rfl
                        rotate_left
                        · simp only [Act.put, List.setIfInBounds_toArray, List.set_cons_zero, List.set_cons_succ, i64_w, i32_w]
                          rfl
                        refine one_ (i := 7) (N := some 150) #[true, true, true, true, true, true, true, true, false, false, false, false, false, false, false, false] rfl rfl (by kernel_rfl) (by decide) (fun K hK => ?_)
                        refine goes_ Try.func32 (by kernel_rfl) rfl #[.pointer (some ⟨rg, 0, none⟩)] (by rfl) rfl rfl (by simp only [List.map_toArray, List.map_cons, List.map_nil]; rfl) ?_
                        with_reducible refine (hNum2.out).mono ?_
                        rintro e w12 ⟨rfl, hrd2, hg2⟩
                        refine ⟨_, rfl, ?_⟩
                        have HC2 := Lib.hid ((HC1.out.below (below_drew (Below.refl _ _)) HC1.out.lt).grown hg2 (by simp; omega))
                        have HT2 := Lib.hid (Kd.R_grown (Kd.R_below HT1.out (below_drew (Below.refl _ _))) hg2 (fun k hk => by simp; omega))
                        have HB2 := Lib.hid (belowg (below_drew HB1.out) hg2 (below_drew HB1.out).size (by omega))
                        have HRD2 := Lib.hid hrd2
                        have hrl : rg < w12.heap.size := hrd2.lt
                        clear hrd2 hg2 t8
                        refine hK.out _ _ (HC2.out.atT) (fun hHeld => ?_)
                        clear hK K
                        refine norm_ (a' := ?_) ?_ ?_
                        rotate_left
                        · show Act.put _ (some 150) _ = _
                          simp only [Act.put, List.setIfInBounds_toArray, List.set_cons_zero, List.set_cons_succ, i64_w, i32_w]
                          rfl
                        refine pure_ (i := 8) (N := some 151) (v := ?_) (a' := ?_) #[true, true, true, true, true, true, true, true, true, false, false, false, false, false, false, false] rfl rfl (by kernel_rfl) (fun _ _ _ h => h) (Or.inl ⟨by rfl, ?_⟩) ?_ ?_
                        rotate_left
                        · intro w'
                          go_simp
                          with_reducible rfl
                        rotate_left
                        · simp only [Act.put, List.setIfInBounds_toArray, List.set_cons_zero, List.set_cons_succ, i64_w, i32_w]
                          rfl
                        refine take_ (i := 9) (N := some 152) (v := ?_) (a' := ?_) #[true, true, true, true, true, true, true, true, true, true, false, false, false, false, false, false] rfl rfl (by kernel_rfl) (fun _ _ _ h => h) (Or.inl ⟨by rfl, ?_⟩) hHeld ?_ ?_
                        rotate_left
                        · intro w' s0
                          go_simp
                          with_reducible rfl
                        rotate_left
                        · simp only [Act.put, List.setIfInBounds_toArray, List.set_cons_zero, List.set_cons_succ, i64_w, i32_w]
                          rfl
                        refine pure_ (i := 10) (N := some 153) (v := ?_) (a' := ?_) #[true, true, true, true, true, true, true, true, true, true, true, false, false, false, false, false] rfl rfl (by kernel_rfl) (fun _ _ _ h => h) (Or.inl ⟨by rfl, ?_⟩) ?_ ?_
                        rotate_left
                        · intro w'
                          go_simp
                          with_reducible rfl
                        rotate_left
                        · simp only [Act.put, List.setIfInBounds_toArray, List.set_cons_zero, List.set_cons_succ, i64_w, i32_w]
                          rfl
                        refine one_ (i := 11) (N := some 154) #[true, true, true, true, true, true, true, true, true, true, true, true, false, false, false, false] rfl rfl (by kernel_rfl) (by decide) (fun K hK => ?_)
                        refine value_ (w1 := ?_) (v := ?_) (by rfl) rfl ?_ ?_
                        rotate_left 2
                        · go_simp
                          constructor
                          · rfl
                          · rfl
                        refine hK.out _ _ ((HC2.out.below (below_alloc (Below.refl _ _) _) HC2.out.lt).atT) (fun hHeld => ?_)
                        clear hK K
                        refine norm_ (a' := ?_) ?_ ?_
                        rotate_left
                        · show Act.put _ (some 154) _ = _
                          simp only [Act.put, List.setIfInBounds_toArray, List.set_cons_zero, List.set_cons_succ, i64_w, i32_w]
                          rfl
                        refine one_ (i := 12) (N := some 155) #[true, true, true, true, true, true, true, true, true, true, true, true, true, false, false, false] rfl rfl (by kernel_rfl) (by decide) (fun K hK => ?_)
                        refine Kd.R_append_step kT w.heap.size (by rfl) (.tmp 147) (.tmp 154) 23 48 (.agg #[.int .i64 0, .int .i64 0]) 16 rfl Try.underlying23 infoTick' (by rfl) (by decide) (by decide) (.slice A7 T.length c7) T (a1, (e2 : Int)) [.int .i64 a1, .int .i64 (e2 : Int)] (fun k => rg < k) (fun _ => False) rfl rfl ⟨[_], [_], rfl, rfl, rfl⟩ (fun _ h => h.elim) (fun q hq => by omega) HT2.out HB2.out HB2.out.size (by omega) ?_
                        intro v9 w13 hr9 hb9 hg9 hat9
                        have HC3 := Lib.hid (HC2.out.grown hg9 (fun e => by have := HT2.out.1 _ e.symm; omega))
                        have HRD3 := Lib.hid (HRD2.out.far hg9 (fun e => by have := HT2.out.1 _ e.symm; omega) (fun k e hk => by have := HT2.out.1 _ e; omega))
                        obtain ⟨A9, c9, rfl, hc9, hd9⟩ := Kd.R_reads hr9
                        clear hc9 hd9
                        have HR3 := Lib.hid hr9
                        have HB3 := Lib.hid hb9
                        clear hr9 hb9 hg9 hat9
                        have t9 := HC3.out.atT
                        have cf9 := HC3.out.frz 16384
                        refine hK.out _ _ (t9) (fun hHeld => ?_)
                        clear hK K
                        refine norm_ (a' := ?_) ?_ ?_
                        rotate_left
                        · show Act.put _ (some 155) _ = _
                          simp only [Act.put, List.setIfInBounds_toArray, List.set_cons_zero, List.set_cons_succ, i64_w, i32_w]
                          rfl
                        refine pure_ (i := 13) (N := some 156) (v := ?_) (a' := ?_) #[true, true, true, true, true, true, true, true, true, true, true, true, true, true, false, false] rfl rfl (by kernel_rfl) (fun _ _ _ h => h) (Or.inl ⟨by rfl, ?_⟩) ?_ ?_
                        rotate_left
                        · intro w'
                          go_simp
                          with_reducible rfl
                        rotate_left
                        · simp only [Act.put, List.setIfInBounds_toArray, List.set_cons_zero, List.set_cons_succ, i64_w, i32_w]
                          rfl
                        refine pure_ (i := 14) (N := some 157) (v := ?_) (a' := ?_) #[true, true, true, true, true, true, true, true, true, true, true, true, true, true, true, false] rfl rfl (by kernel_rfl) (fun _ _ _ h => h) (Or.inl ⟨by rfl, ?_⟩) ?_ ?_
                        rotate_left
                        · intro w'
                          go_simp
                          with_reducible rfl
                        rotate_left
                        · simp only [Act.put, List.setIfInBounds_toArray, List.set_cons_zero, List.set_cons_succ, i64_w, i32_w]
                          rfl
                        refine last_ (i := 15) (N := none) #[true, true, true, true, true, true, true, true, true, true, true, true, true, true, true, true] rfl rfl (by kernel_rfl) (by decide) (fun K hK => ?_)
                        refine skip_ (w1 := ?_) (by rfl) rfl ?_ ?_
                        rotate_left
                        · go_simp
                          rfl
                        refine hK.out _ _ ?_
                        clear hK K
                        refine done_ (by kernel_rfl) ?_
                        have hlT : (T ++ [(a1, (e2 : Int))]).length = T.length + 1 := by rw [List.length_append, List.length_singleton]
                        have HN0 := (⟨Below.setCell HB3.out (Nat.le_refl _) _, HRD3.out.far (gset (World.grownBy.refl w13 (some w.heap.size)) 16384 (.slice A9 (T ++ [(a1, (e2 : Int))]).length c9)) (fun e => by injection e with e; omega) (fun k e hk => by injection e with e; omega), HC3.out.setT _, Kd.R_far HR3.out (fun k hk => by simp; omega) _, HTS3.out⟩ : Tl w (w13.setCell ⟨w.heap.size, 16384, none⟩ (.slice A9 (T ++ [(a1, (e2 : Int))]).length c9)) n8 rg b Cf Lf (T ++ [(a1, (e2 : Int))]) s2 (.slice A9 (T ++ [(a1, (e2 : Int))]).length c9) m1 a1)
                        rw [hlT] at HN0
                        have HN := Lib.hid HN0
                        clear HN0
                        clear t9 cf9 HC3 HRD3 HR3 HB3 k2 k4
                        go_wp2
                        go_roundw
                        case rel => exact ⟨T ++ [(a1, (e2 : Int))], a1, m1, s2, _, rfl, rfl, hm1l, by omega, by omega, ⟨HN.out⟩⟩
                        case measure => have := Hm1.out; simp [intOf]; omega
                      · have d3 := decide_eq_false (show ¬ (T.length : Int) ≤ 4096 by omega)
                        have HST := Lib.hid (HL2.out.ts.stop (.inr (.inr (by omega))))
                        obtain ⟨A9, c9, hv9, hc9, hC9⟩ := Kd.R_reads HL2.out.tk
                        first | subst hv9 | (have hv8 := hv9.symm; simp only [Value.slice.injEq, true_and] at hv8; obtain ⟨hv6, hv7⟩ := hv8; subst hv6 hv7; clear hv9)
                        have hFs := Lib.hid (show ∀ C L T', Pk b C L T' → C = Cf ∧ L = Lf ∧ T' = T from fun C L T' h => ⟨(HP3.out C L T' h).1, (HP3.out C L T' h).2.1, HST.out C L T' h⟩)
                        have hlen9 : T.length ≤ 1000000 := by omega
                        cases hm0 : mayB Cf Lf T with
                        | false =>
                          have hput := Lib.hid (pput_no _ _ _ _ A9 c9 _ HL2.out.ch hC9 HUC.out HUL.out (by omega) hm0)
                          have hF := Lib.hid (show ∀ C L T', ¬ Pk b C L T' from fun C L T' h => by
                            obtain ⟨rfl, rfl, rfl⟩ := hFs.out C L T' h
                            rw [h.may] at hm0
                            cases hm0)
                          clear hm0 hC9 hc9
                          go_wp2_with fail
                          refine hput.out.mono ?_; rintro e wp ⟨rfl, hbp⟩
                          have HBP := Lib.hid (below_step HL2.out.below hbp)
                          clear hbp hput
                          go_wp2
                          go_step3
                          go_wp2
                          simp only [Exit.jump]
                          go_ret2
                          exact ⟨.inl ⟨rfl, hF.out⟩, HBP.out⟩
                        | true =>
                          have hput := Lib.hid (pput_calls _ _ _ _ A9 c9 _ HL2.out.ch hC9 HUC.out HUL.out hlen9 hm0)
                          have hPB := Lib.hid (pack_bytes HUC.out HUL.out HL2.out.ch.lenC HL2.out.ch.lenL hm0)
                          have HM0 := Lib.hid hm0
                          have HTK := Lib.hid (show TK _ (.slice A9 T.length c9) T from ⟨A9, c9, rfl, hc9, hC9⟩)
                          clear hm0 hC9 hc9
                          go_wp2_with fail
                          refine hput.out.mono ?_; rintro e wp ⟨vp, rfl, hop, hbp⟩
                          obtain ⟨Ap, cp, rfl, hcp, hrp⟩ := OB.slice hop
                          have HLp := Lib.hid (HL2.out.under hbp)
                          have HTKp := Lib.hid (show TK wp (.slice A9 T.length c9) T from by
                            obtain ⟨A, c, e1, e2, e3⟩ := HTK.out
                            exact ⟨A, c, e1, e2, Kd.C_below e3 hbp⟩)
                          have heq := Lib.hid (equal_calls Ap (some ad) cp c (packB Cf Lf T) b wp hrp hcp (HR.out.below HLp.out.below) HC.out hPB.out HB.out)
                          clear hop hcp hrp hbp hput
                          go_wp2_with fail
                          refine heq.out.mono ?_; rintro e wq ⟨rfl, ⟨nq, rfl⟩⟩
                          by_cases hpb : packB Cf Lf T = b
                          · have hd9 : decide (packB Cf Lf T = b) = true := decide_eq_true hpb
                            have HPK := Lib.hid (⟨HLp.out.ch.lenC, HLp.out.ch.lenL, HUC.out, HUL.out, HM0.out, hpb⟩ : Pk b Cf Lf T)
                            clear hpb
                            go_wp2
                            simp only [Exit.jump]
                            go_ret2
                            exact ⟨.inr ⟨Cf, Lf, T, _, rfl, HLp.out.ch.below (pw_below_drewN (Below.refl _ _) _) HLp.out.ch.lt, (by
                              obtain ⟨A, c, e1, e2, e3⟩ := HTKp.out
                              exact ⟨A, c, e1, e2, Kd.C_below e3 (pw_below_drewN (Below.refl _ _) _)⟩), HPK.out⟩, pw_below_drewN HLp.out.below _⟩
                          · have hd9 : decide (packB Cf Lf T = b) = false := decide_eq_false hpb
                            have hF := Lib.hid (show ∀ C L T', ¬ Pk b C L T' from fun C L T' h => by
                              obtain ⟨rfl, rfl, rfl⟩ := hFs.out C L T' h
                              exact hpb h.eq)
                            clear hpb
                            go_wp2
                            go_step3
                            go_wp2
                            simp only [Exit.jump]
                            go_ret2
                            exact ⟨.inl ⟨rfl, hF.out⟩, pw_below_drewN HLp.out.below _⟩
                  · have d2 := decide_eq_false (show ¬ (0 : Int) < (m : Int) by omega)
                    obtain rfl : m = 0 := by omega
                    have HST := Lib.hid (HL.out.ts.stop (.inl rfl))
                    have HL2 := Lib.hid (HL.out.under (Below.refl _ _))
                    clear HL
                    obtain ⟨A9, c9, hv9, hc9, hC9⟩ := Kd.R_reads HL2.out.tk
                    first | subst hv9 | (have hv8 := hv9.symm; simp only [Value.slice.injEq, true_and] at hv8; obtain ⟨hv6, hv7⟩ := hv8; subst hv6 hv7; clear hv9)
                    have hFs := Lib.hid (show ∀ C L T', Pk b C L T' → C = Cf ∧ L = Lf ∧ T' = T from fun C L T' h => ⟨(HP3.out C L T' h).1, (HP3.out C L T' h).2.1, HST.out C L T' h⟩)
                    have hlen9 : T.length ≤ 1000000 := by omega
                    cases hm0 : mayB Cf Lf T with
                    | false =>
                      have hput := Lib.hid (pput_no _ _ _ _ A9 c9 _ HL2.out.ch hC9 HUC.out HUL.out (by omega) hm0)
                      have hF := Lib.hid (show ∀ C L T', ¬ Pk b C L T' from fun C L T' h => by
                        obtain ⟨rfl, rfl, rfl⟩ := hFs.out C L T' h
                        rw [h.may] at hm0
                        cases hm0)
                      clear hm0 hC9 hc9
                      go_wp2_with fail
                      refine hput.out.mono ?_; rintro e wp ⟨rfl, hbp⟩
                      have HBP := Lib.hid (below_step HL2.out.below hbp)
                      clear hbp hput
                      go_wp2
                      go_step3
                      go_wp2
                      simp only [Exit.jump]
                      go_ret2
                      exact ⟨.inl ⟨rfl, hF.out⟩, HBP.out⟩
                    | true =>
                      have hput := Lib.hid (pput_calls _ _ _ _ A9 c9 _ HL2.out.ch hC9 HUC.out HUL.out hlen9 hm0)
                      have hPB := Lib.hid (pack_bytes HUC.out HUL.out HL2.out.ch.lenC HL2.out.ch.lenL hm0)
                      have HM0 := Lib.hid hm0
                      have HTK := Lib.hid (show TK _ (.slice A9 T.length c9) T from ⟨A9, c9, rfl, hc9, hC9⟩)
                      clear hm0 hC9 hc9
                      go_wp2_with fail
                      refine hput.out.mono ?_; rintro e wp ⟨vp, rfl, hop, hbp⟩
                      obtain ⟨Ap, cp, rfl, hcp, hrp⟩ := OB.slice hop
                      have HLp := Lib.hid (HL2.out.under hbp)
                      have HTKp := Lib.hid (show TK wp (.slice A9 T.length c9) T from by
                        obtain ⟨A, c, e1, e2, e3⟩ := HTK.out
                        exact ⟨A, c, e1, e2, Kd.C_below e3 hbp⟩)
                      have heq := Lib.hid (equal_calls Ap (some ad) cp c (packB Cf Lf T) b wp hrp hcp (HR.out.below HLp.out.below) HC.out hPB.out HB.out)
                      clear hop hcp hrp hbp hput
                      go_wp2_with fail
                      refine heq.out.mono ?_; rintro e wq ⟨rfl, ⟨nq, rfl⟩⟩
                      by_cases hpb : packB Cf Lf T = b
                      · have hd9 : decide (packB Cf Lf T = b) = true := decide_eq_true hpb
                        have HPK := Lib.hid (⟨HLp.out.ch.lenC, HLp.out.ch.lenL, HUC.out, HUL.out, HM0.out, hpb⟩ : Pk b Cf Lf T)
                        clear hpb
                        go_wp2
                        simp only [Exit.jump]
                        go_ret2
                        exact ⟨.inr ⟨Cf, Lf, T, _, rfl, HLp.out.ch.below (pw_below_drewN (Below.refl _ _) _) HLp.out.ch.lt, (by
                          obtain ⟨A, c, e1, e2, e3⟩ := HTKp.out
                          exact ⟨A, c, e1, e2, Kd.C_below e3 (pw_below_drewN (Below.refl _ _) _)⟩), HPK.out⟩, pw_below_drewN HLp.out.below _⟩
                      · have hd9 : decide (packB Cf Lf T = b) = false := decide_eq_false hpb
                        have hF := Lib.hid (show ∀ C L T', ¬ Pk b C L T' from fun C L T' h => by
                          obtain ⟨rfl, rfl, rfl⟩ := hFs.out C L T' h
                          exact hpb h.eq)
                        clear hpb
                        go_wp2
                        go_step3
                        go_wp2
                        simp only [Exit.jump]
                        go_ret2
                        exact ⟨.inl ⟨rfl, hF.out⟩, pw_below_drewN HLp.out.below _⟩
end Go.Proofs.Ytkecppgodmbmlaa.PK

namespace Go.Proofs.Ytkecppgodmbmlaa.CD
set_option linter.unusedVariables false
set_option linter.unusedSimpArgs false
def val7 : List Int → Nat
  | [] => 0
  | c :: l => (c % 128).toNat + 128 * val7 l
def Goes (l : List Int) (k : Nat) : Prop := 1 ≤ k ∧ k ≤ l.length ∧ (∀ j, j + 1 < k → 128 ≤ l.getD j 0) ∧ l.getD (k - 1) 0 < 128
theorem Goes.uniq {l : List Int} {a b : Nat} (h : Goes l a) (g : Goes l b) : a = b := by
  obtain ⟨h1, h2, h3, h4⟩ := h
  obtain ⟨g1, g2, g3, g4⟩ := g
  rcases Nat.lt_trichotomy a b with hlt | he | hgt
  · have := g3 (a - 1) (by omega); omega
  · exact he
  · have := h3 (b - 1) (by omega); omega
theorem numF_goes : ∀ (k n : Nat) (rest : List Int), n < 128 ^ (k + 1) → Goes (numF k n ++ rest) (numF k n).length
  | 0, n, rest, h => by
    have : n < 128 := by simpa using h
    refine ⟨by simp [numF], by simp [numF], fun j hj => by simp [numF] at hj, ?_⟩
    simp [numF]; omega
  | k + 1, n, rest, h => by
    by_cases hs : n < 128
    · rw [numF_small _ _ hs]
      refine ⟨by simp, by simp, fun j hj => by simp at hj, ?_⟩
      simp; omega
    · rw [numF_big k n (by omega)]
      obtain ⟨i1, i2, i3, i4⟩ := numF_goes k (n / 128) rest (by rw [Nat.pow_succ] at h; omega)
      refine ⟨by simp, by simp, fun j hj => ?_, ?_⟩
      · cases j with
        | zero => simp; omega
        | succ j => simp only [List.cons_append, List.getD_cons_succ]; exact i3 j (by simp at hj; omega)
      · simp only [List.length_cons, List.cons_append, Nat.add_sub_cancel]
        obtain ⟨q, hq⟩ : ∃ q, (numF k (n / 128)).length = q + 1 := ⟨(numF k (n / 128)).length - 1, by omega⟩
        rw [hq] at i4 ⊢
        simp only [List.getD_cons_succ]
        exact i4
theorem val7_numF : ∀ (k n : Nat), n < 128 ^ (k + 1) → val7 (numF k n) = n
  | 0, n, h => by
    have : n < 128 := by simpa using h
    simp [numF, val7]; omega
  | k + 1, n, h => by
    by_cases hs : n < 128
    · rw [numF_small _ _ hs]; simp [val7]; omega
    · rw [numF_big k n (by omega), val7, val7_numF k (n / 128) (by rw [Nat.pow_succ] at h; omega)]
      omega
theorem num_goes (n : Nat) (rest : List Int) (h : n < 18446744073709551616) : Goes (num n ++ rest) (num n).length := numF_goes 9 n rest (by omega)
theorem val7_num (n : Nat) (h : n < 18446744073709551616) : val7 (num n) = n := val7_numF 9 n (by omega)
theorem val7_take : ∀ (l : List Int) (i : Nat), i < l.length → val7 (l.take (i + 1)) = val7 (l.take i) + (l.getD i 0 % 128).toNat * 128 ^ i
  | c :: l, 0, _ => by simp [val7]
  | c :: l, i + 1, h => by
    simp only [List.take_succ_cons, val7, List.getD_cons_succ]
    rw [val7_take l i (by simpa using h), Nat.pow_succ]
    generalize (l.getD i 0 % 128).toNat = d
    generalize 128 ^ i = p
    have : d * (p * 128) = 128 * (d * p) := by rw [← Nat.mul_assoc, Nat.mul_comm]
    omega
theorem dec_goes_not (l : List Int) (hb : Bytes l) (h : ∀ k, k ≤ 10 → ¬ Goes l k) : dec l = (0, 0) := by
  cases hd : dec l with
  | mk m k =>
    by_cases hk : k = 0
    · subst hk; rw [dec_none l m hd]
    · obtain ⟨hm, hkl, hl, _, _, hk10⟩ := dec_back l hb m k hd hk
      have hg := num_goes m (l.drop k) hm
      rw [← hl, ← hkl] at hg
      exact absurd hg (h k hk10)
theorem dec_goes (l : List Int) (hb : Bytes l) (k : Nat) (hg : Goes l k) (n : Nat) (hn : n = val7 (l.take k) % 18446744073709551616) :
    dec l = if l.take (num n).length = num n then (n, k) else (0, 0) := by
  have hn64 : n < 18446744073709551616 := by rw [hn]; exact Nat.mod_lt _ (by decide)
  split
  · rename_i hp
    have hl : l = num n ++ l.drop (num n).length := by
      have := List.take_append_drop (num n).length l
      rw [hp] at this; exact this.symm
    have hg2 := num_goes n (l.drop (num n).length) hn64
    rw [← hl] at hg2
    rw [hg.uniq hg2]
    have hd := dec_num n (l.drop (num n).length) hn64
    rw [← hl] at hd
    exact hd
  · rename_i hp
    cases hd : dec l with
    | mk m k' =>
      by_cases hk : k' = 0
      · subst hk; rw [dec_none l m hd]
      · exfalso
        obtain ⟨hm, hkl, hl, _, _, _⟩ := dec_back l hb m k' hd hk
        have hg2 := num_goes m (l.drop k') hm
        rw [← hl] at hg2
        have e := hg.uniq hg2
        have ht : l.take k = num m := by rw [e, hl]; exact List.take_left
        apply hp
        have hnm : n = m := by rw [hn, ht, val7_num m hm]; exact Nat.mod_eq_of_lt hm
        rw [hnm, ← e]; exact ht
end Go.Proofs.Ytkecppgodmbmlaa.CD

namespace Go.Proofs.Ytkecppgodmbmlaa.CD
open Go.RowKit Go.Proofs.YtkecppgodmbmlaaW.PrintWords Go.Proofs.YtkecppgodmbmlaaW.PrintLast Go.Proofs.YtkecppgodmbmlaaW.PrintMore
set_option linter.unusedVariables false
set_option linter.unusedSimpArgs false
theorem rdn (l : List Int) (i : Nat) : rd l (i : Int) = l.getD i 0 := by simp [rd]
theorem same_l0 (b w : List Int) (hl : w.length ≤ b.length) (hw : w.length ≤ 1000000) : ∀ (d f i : Nat), d = w.length - i → d < f → PPackGets.bedrockref04_same.l0 f b w (i : Int) = some (decide ((b.take w.length).drop i = w.drop i))
  | 0, f, i, hd, hf => by
    obtain ⟨f, rfl⟩ : ∃ g, f = g + 1 := ⟨f - 1, by omega⟩
    simp only [PPackGets.bedrockref04_same.l0]
    rw [if_neg (by omega), List.drop_of_length_le (by rw [List.length_take]; omega), List.drop_of_length_le (by omega)]
    simp
  | d + 1, f, i, hd, hf => by
    obtain ⟨f, rfl⟩ : ∃ g, f = g + 1 := ⟨f - 1, by omega⟩
    simp only [PPackGets.bedrockref04_same.l0]
    have hi : i < w.length := by omega
    rw [if_pos (by omega), if_pos (by omega), if_pos (by omega), rdn, rdn]
    have e1 : (b.take w.length).drop i = b.getD i 0 :: (b.take w.length).drop (i + 1) := by
      rw [List.drop_eq_getElem_cons (by rw [List.length_take]; omega), List.getElem_take, List.getD_eq_getElem?_getD, List.getElem?_eq_getElem (by omega)]; rfl
    have e2 : w.drop i = w.getD i 0 :: w.drop (i + 1) := by
      rw [List.drop_eq_getElem_cons hi, List.getD_eq_getElem?_getD, List.getElem?_eq_getElem hi]; rfl
    rw [e1, e2]
    have hw1 : wrap64 ((i : Int) + 1) = ((i + 1 : Nat) : Int) := by unfold wrap64; omega
    by_cases he : b.getD i 0 = w.getD i 0
    · rw [if_pos he, hw1, same_l0 b w hl hw d f (i + 1) (by omega) (by omega), he]
      simp
    · rw [if_neg he, decide_eq_false (fun e => he (by injection e))]
theorem same_f (b w : List Int) (hw : w.length ≤ 1000000) (f : Nat) (hf : w.length < f) : PPackGets.bedrockref04_same.f f b w = some (decide (b.take w.length = w)) := by
  unfold PPackGets.bedrockref04_same.f
  by_cases h : b.length < w.length
  · rw [if_pos (by omega)]
    have : ¬ (b.take w.length = w) := fun e => by have := congrArg List.length e; rw [List.length_take] at this; omega
    simp [this]
  · rw [if_neg (by omega)]
    have := same_l0 b w (by omega) hw w.length f 0 (by omega) hf
    simpa using this
theorem num_l0F : ∀ (k j n : Nat) (x : List Int), n < 128 ^ (k + 1) → n < 18446744073709551616 → x.length + k < 140737488355328 → k < j → PPackGets.bedrockref04_Num.l0 j (n : Int) x = some (x ++ numF k n)
  | 0, j, n, x, hn, h64, hx, hj => by
    obtain ⟨j, rfl⟩ : ∃ m, j = m + 1 := ⟨j - 1, by omega⟩
    simp only [PPackGets.bedrockref04_Num.l0, numF]
    rw [if_neg (by omega), if_pos (by omega), show ((n : Int) % 256) = (n : Int) by omega]
  | k + 1, j, n, x, hn, h64, hx, hj => by
    obtain ⟨j, rfl⟩ : ∃ m, j = m + 1 := ⟨j - 1, by omega⟩
    simp only [PPackGets.bedrockref04_Num.l0]
    by_cases h : n < 128
    · rw [numF_small _ _ h, if_neg (by omega), if_pos (by omega), show ((n : Int) % 256) = (n : Int) by omega]
    · have e1 : IntKind.u64.wrap (Int.tdiv (n : Int) 128) = ((n / 128 : Nat) : Int) := by
        rw [Int.tdiv_eq_ediv_of_nonneg (by omega), CF.wu64]; omega
      have e2 : (IntKind.u64.wrap ((Int.tmod (n : Int) 128) + 128)) % 256 = ((n % 128 + 128 : Nat) : Int) := by
        rw [Int.tmod_eq_emod_of_nonneg (by omega), CF.wu64]; omega
      rw [numF_big k n (by omega), if_pos (by omega), if_pos (by omega), e1, e2]
      clear e1 e2
      rw [num_l0F k j (n / 128) _ (by rw [Nat.pow_succ] at hn; omega) (by omega) (by simp; omega) (by omega)]
      simp
theorem num_fF (n f : Nat) (hn : n < 18446744073709551616) (hf : 12 ≤ f) : PPackGets.bedrockref04_Num.f f (n : Int) = some (num n) := by
  have h := num_l0F 9 f n [] (by omega) hn (by simp) (by omega)
  unfold PPackGets.bedrockref04_Num.f
  exact h
def told (l : List Int) (k n : Nat) : Int × Int := if l.take (num n).length = num n then ((n : Int), (k : Int)) else (0, 0)
theorem first_l1 (l : List Int) (hb : Bytes l) (k F : Nat) (hF : 20 ≤ F) : ∀ (i x : Nat), i ≤ l.length → i ≤ 1000000 → x < 18446744073709551616 →
    PPackGets.bedrockref04_First.l1 (i + 1 + F) l (k : Int) (x : Int) ((i : Int) - 1) = some (told l k ((x * 128 ^ i + val7 (l.take i)) % 18446744073709551616))
  | 0, x, hi, h6, hx => by
    rw [show 0 + 1 + F = F + 1 by omega]
    simp only [PPackGets.bedrockref04_First.l1]
    rw [if_neg (by omega), num_fF x F hx (by omega)]
    simp only [Option.bind_some]
    rw [same_f l (num x) (by have := num_le x; omega) F (by have := num_le x; omega)]
    simp only [Option.bind_some, decide_eq_true_eq, List.take_zero, val7, Nat.pow_zero, Nat.mul_one, Nat.add_zero]
    rw [Nat.mod_eq_of_lt hx]
    unfold told
    split <;> rfl
  | i + 1, x, hi, h6, hx => by
    rw [show i + 1 + 1 + F = (i + 1 + F) + 1 by omega]
    simp only [PPackGets.bedrockref04_First.l1]
    have e1 : (((i + 1 : Nat) : Int) - 1) = (i : Int) := by omega
    rw [e1, if_pos (by omega), if_pos (by omega), if_pos (by omega), rdn]
    have hc : 0 ≤ l.getD i 0 ∧ l.getD i 0 < 256 := by
      rw [List.getD_eq_getElem?_getD, List.getElem?_eq_getElem (by omega)]
      exact hb _ (List.getElem_mem (by omega))
    have hv := val7_take l i (by omega)
    obtain ⟨c, hce⟩ : ∃ c : Nat, l.getD i 0 = (c : Int) := ⟨(l.getD i 0).toNat, by omega⟩
    rw [hce] at hc hv ⊢
    have e2 : IntKind.u64.wrap (IntKind.u64.wrap (128 * (x : Int)) + IntKind.u64.wrap (Int.tmod (c : Int) 128)) = (((128 * x + c % 128) % 18446744073709551616 : Nat) : Int) := by
      rw [Int.tmod_eq_emod_of_nonneg (by omega), CF.wu64, CF.wu64, CF.wu64]; omega
    have e3 : wrap64 ((i : Int) - 1) = (i : Int) - 1 := by unfold wrap64; omega
    rw [e2, e3, first_l1 l hb k F hF i _ (by omega) (by omega) (Nat.mod_lt _ (by decide))]
    congr 2
    rw [hv]
    have e4 : (((c : Int) % 128).toNat) = c % 128 := by omega
    rw [e4, Nat.pow_succ]
    generalize val7 (l.take i) = v
    generalize 128 ^ i = p
    rw [Nat.add_mod, Nat.mod_mul_mod, ← Nat.add_mod]
    congr 1
    rw [Nat.add_mul, Nat.mul_comm 128 x, Nat.mul_assoc, Nat.mul_comm 128 p]
    omega
theorem first_l0 (l : List Int) (hb : Bytes l) (hl : l.length ≤ 140737488355328) : ∀ (d k : Nat), k + d = 11 → 1 ≤ k → (∀ j, j + 1 < k → 128 ≤ l.getD j 0) →
    PPackGets.bedrockref04_First.l0 (2 * d + 50) l (k : Int) = some (((dec l).1 : Int), ((dec l).2 : Int))
  | d, k, hd, hk, hall => by
    have hfall : ∀ (hk' : ¬ (k ≤ 10 ∧ k ≤ l.length)), dec l = (0, 0) := fun hk' => dec_goes_not l hb fun q hq hg => by
      obtain ⟨g1, g2, g3, g4⟩ := hg
      have := hall (q - 1) (by omega)
      omega
    rw [show 2 * d + 50 = (2 * d + 48 + 1) + 1 by omega]
    simp only [PPackGets.bedrockref04_First.l0]
    by_cases h10 : k ≤ 10
    · rw [if_pos (by omega)]
      by_cases hlen : k ≤ l.length
      · rw [decide_eq_true (by omega)]
        simp only [PPackGets.bedrockref04_First.j1, if_true]
        have e1 : wrap64 ((k : Int) - 1) = ((k - 1 : Nat) : Int) := by unfold wrap64; omega
        have e2 : wrap64 ((k : Int) + 1) = ((k + 1 : Nat) : Int) := by unfold wrap64; omega
        rw [e1, e2, if_pos (by omega), if_pos (by omega), rdn]
        by_cases hc : 128 ≤ l.getD (k - 1) 0
        · rw [if_pos (by omega)]
          obtain ⟨d, rfl⟩ : ∃ q, d = q + 1 := ⟨d - 1, by omega⟩
          rw [show 2 * (d + 1) + 48 = 2 * d + 50 by omega]
          refine first_l0 l hb hl d (k + 1) (by omega) (by omega) fun j hj => ?_
          rcases Nat.lt_or_ge (j + 1) k with h | h
          · exact hall j h
          · obtain rfl : j = k - 1 := by omega
            exact hc
        · rw [if_neg (by omega)]
          have hg : Goes l k := ⟨hk, hlen, hall, by omega⟩
          have h1 := first_l1 l hb k (2 * d + 48 - k - 1) (by omega) k 0 hlen (by omega) (by decide)
          rw [show k + 1 + (2 * d + 48 - k - 1) = 2 * d + 48 by omega] at h1
          have e3 : ((k - 1 : Nat) : Int) = (k : Int) - 1 := by omega
          rw [e3]
          have h1' : PPackGets.bedrockref04_First.l1 (2 * d + 48) l (k : Int) 0 ((k : Int) - 1) = _ := h1
          rw [h1', Nat.zero_mul, Nat.zero_add, dec_goes l hb k hg _ rfl]
          unfold told
          split <;> rfl
      · rw [decide_eq_false (by omega)]
        simp only [PPackGets.bedrockref04_First.j1, Bool.false_eq_true, if_false]
        rw [hfall (by omega)]; rfl
    · rw [if_neg (by omega)]
      simp only [PPackGets.bedrockref04_First.j1, Bool.false_eq_true, if_false]
      rw [hfall (by omega)]; rfl
  termination_by d => d
theorem first_f (l : List Int) (hb : Bytes l) (hl : l.length ≤ 140737488355328) : PPackGets.bedrockref04_First.f 70 l = some (((dec l).1 : Int), ((dec l).2 : Int)) :=
  first_l0 l hb hl 10 1 (by omega) (by omega) fun j hj => by omega
end Go.Proofs.Ytkecppgodmbmlaa.CD

namespace Go.Proofs.Ytkecppgodmbmlaa.BR
open Go.RowKit Go.Proofs.YtkecppgodmbmlaaW.PrintWords Go.Proofs.YtkecppgodmbmlaaW.PrintLast Go.Proofs.YtkecppgodmbmlaaW.PrintMore Go.Proofs.Ytkecppgodmbmlaa.CD
set_option linter.unusedVariables false
set_option linter.unusedSimpArgs false
structure RRd (w : World) (g : Nat) (xs : List Int) (br : Bool) : Prop where
  cell : ∃ (A : Option Addr) (c : Nat), w.heap[g]? = some (.cells #[.slice A xs.length c, .bool br] 97 (0, 0)) ∧ xs.length ≤ c ∧ ReadsInt w .u8 A xs.length xs ∧ (∀ ad, A = some ad → 0 < xs.length → ad.block ≠ g)
  small : xs.length ≤ 140737488355328
  bytes : Bytes xs
theorem RRd.lt {w : World} {g : Nat} {xs : List Int} {br : Bool} (h : RRd w g xs br) : g < w.heap.size := by
  obtain ⟨A, c, hb, _⟩ := h.cell
  exact blk_lt hb
theorem RRd.kept {w w' : World} {g : Nat} {xs : List Int} {br : Bool} (h : RRd w g xs br) {row : Option Nat} (hg : w.grownBy w' row) (hne : some g ≠ row) (hdata : ∀ ad : Addr, some ad.block = row → ∀ A c, w.heap[g]? = some (.cells #[.slice A xs.length c, .bool br] 97 (0, 0)) → 0 < xs.length → A ≠ some ad) : RRd w' g xs br := by
  obtain ⟨A, c, hb, hc, hr, hn⟩ := h.cell
  refine ⟨⟨A, c, (hg.block g (blk_lt hb) hne).trans hb, hc, reads_kept hr fun ad e h0 hl => hg.block _ hl (fun e2 => hdata ad e2 A c hb h0 e), hn⟩, h.small, h.bytes⟩
theorem RRd.below {w w' : World} {g : Nat} {xs : List Int} {br : Bool} (h : RRd w g xs br) (hb : Below w.heap.size w w') : RRd w' g xs br :=
  h.kept (gofBelow (row := none) hb) (by simp) (fun ad e => by cases e)
theorem RRd.drewN {w : World} {g : Nat} {xs : List Int} {br : Bool} (h : RRd w g xs br) (n : Nat) : RRd (w.drewN n) g xs br := h.below (pw_below_drewN (Below.refl _ _) n)
theorem RRd.breaks {w : World} {g : Nat} {xs : List Int} {br : Bool} (h : RRd w g xs br) : RRd (w.setCell ⟨g, 1, none⟩ (.bool true)) g xs true := by
  obtain ⟨A, c, hb, hc, hr, hn⟩ := h.cell
  refine ⟨⟨A, c, by rw [blk_set hb]; rfl, hc, reads_kept hr fun ad e h0 hl => Below.heap_setCell w _ _ _ (hn ad e h0), hn⟩, h.small, h.bytes⟩
theorem RRd.moves {w : World} {g : Nat} {xs : List Int} {br : Bool} (h : RRd w g xs br) {A : Option Addr} {c : Nat} (hb : w.heap[g]? = some (.cells #[.slice A xs.length c, .bool br] 97 (0, 0))) {m : Nat} (hm : m ≤ xs.length) {A' : Option Addr}
    (hr : ∀ w, ReadsInt w .u8 A xs.length xs → ReadsInt w .u8 A' (xs.drop m).length (xs.drop m)) (ha : ∀ ad', A' = some ad' → ∃ ad, A = some ad ∧ ad.block = ad'.block) :
    RRd (w.setCell ⟨g, 0, none⟩ (.slice A' (xs.length - m) (c - m))) g (xs.drop m) br := by
  obtain ⟨A2, c2, hb2, hc, hrd, hn⟩ := h.cell
  rw [hb2] at hb
  simp only [Option.some.injEq, Obj.cells.injEq, Array.mk.injEq, List.cons.injEq, Value.slice.injEq, and_true, true_and] at hb
  obtain ⟨rfl, rfl⟩ := hb
  have hl : (xs.drop m).length = xs.length - m := List.length_drop
  have hne : ∀ ad', A' = some ad' → 0 < (xs.drop m).length → ad'.block ≠ g := fun ad' e h0 => by
    obtain ⟨ad, e1, e2⟩ := ha ad' e
    rw [← e2]
    exact hn ad e1 (by omega)
  refine ⟨⟨A', c2 - m, by rw [blk_set hb2, hl]; rfl, by omega, reads_kept (hr w hrd) fun ad e h0 hlt => Below.heap_setCell w _ _ _ (hne ad e h0), hne⟩, by have := h.small; omega, h.bytes.drop m⟩
set_option maxRecDepth 100000 in
theorem step_no (g : Nat) (xs : List Int) (br : Bool) (n : Int) (w : World) (h : RRd w g xs br) (hn : n < 0 ∨ n > (xs.length : Int)) :
    Calls Try.prog 51 #[.pointer (some ⟨g, 0, none⟩), .int .i64 n] w fun e w' => ∃ v, e = .returned v ∧ OB w' w.heap.size v [] ∧ RRd w' g xs true ∧ w.grownBy w' (some g) := by
  have H := Lib.hid h
  obtain ⟨A, c, hb, hc, hr, hne⟩ := h.cell
  have h0 := blk_cell hb 0
  have h2 := blk_cell hb 1
  have f2 := blk_frozen hb 1
  simp only [List.getElem?_toArray, List.getElem?_cons_succ, List.getElem?_cons_zero] at h0 h2
  clear hb hc hr hne h
  by_cases h1 : n < 0
  · have hd : decide (n < 0) = true := decide_eq_true h1
    clear hn
    go_enter Try.func51, Try.ntmps51
    go_wp2_with fail
    go_ret
    exact ⟨_, rfl, own_nil _ _ _ _, H.out.breaks, gset (World.grownBy.refl _ _) _ _⟩
  · have hd : decide (n < 0) = false := decide_eq_false h1
    have hd2 : decide ((xs.length : Int) < n) = true := decide_eq_true (by omega)
    clear hn
    go_enter Try.func51, Try.ntmps51
    go_wp2_with fail
    go_ret
    exact ⟨_, rfl, own_nil _ _ _ _, H.out.breaks, gset (World.grownBy.refl _ _) _ _⟩
-- FI
theorem step_ok (g : Nat) (xs : List Int) (br : Bool) (n : Int) (w : World) (h : RRd w g xs br) (hn0 : 0 ≤ n) (hn1 : n ≤ (xs.length : Int)) :
    Calls Try.prog 51 #[.pointer (some ⟨g, 0, none⟩), .int .i64 n] w fun e w' => ∃ v, e = .returned v ∧ OB w' w.heap.size v (xs.take n.toNat) ∧ RRd w' g (xs.drop n.toNat) br ∧ w.grownBy w' (some g) := by
  have H := Lib.hid h
  obtain ⟨k, rfl⟩ := Int.eq_ofNat_of_zero_le hn0
  rw [Int.toNat_natCast]
  have hkl : k ≤ xs.length := by omega
  obtain ⟨A, c, hb, hc, hr, hne⟩ := h.cell
  have hg := blk_lt hb
  have h0 := blk_cell hb 0
  have f0 := blk_frozen hb 0
  simp only [List.getElem?_toArray, List.getElem?_cons_succ, List.getElem?_cons_zero] at h0
  obtain ⟨A', hcut, hrd, hA'⟩ := cutFrom A xs c k hkl hc
  have hto := cut_to (P := Try.prog) 26 5 .i64 Try.underlying26 (info_parts infoU8).choose_spec.1 A xs.length c (k : Int) (by omega) (by omega) hc
  simp only [Int.toNat_natCast] at hto
  have hrt := hr.take_ k hkl
  obtain ⟨ys, hys⟩ : ∃ ys, ys = xs.take k := ⟨_, rfl⟩
  rw [← hys] at hrt ⊢
  have hyl : ys.length ≤ 140737488355328 := by rw [hys, List.length_take]; have := h.small; omega
  have hyk : k ≤ 140737488355328 := by have := h.small; omega
  have Hb := Lib.hid hb
  have HM := Lib.hid hrd
  have HA := Lib.hid hA'
  have Hr := Lib.hid hrt
  have Hkl := Lib.hid hkl
  have h0a : ∀ (n : Nat) (o : Obj), ((w.drewN n).alloc o).cell? ⟨g, 0, none⟩ = some (.slice A xs.length c) := fun n o => pw_cell_below (below_alloc (pw_below_drewN (Below.refl _ _) _) _) h0
  have hd : decide ((k : Int) < 0) = false := decide_eq_false (by omega)
  have hd2 : decide (xs.length < k) = false := decide_eq_false (by omega)
  clear hb hc hr hne h hrd hA' hkl hn0 hn1 hrt hys
  go_enter Try.func51, Try.ntmps51
  go_wp2_with (at_builtin; refine print_append_row (w0 := w) w.heap.size rfl (.tmp 20) (.tmp 26) 26 5 .u8 1 rfl Try.underlying26 infoU8 (by decide) (.slice none 0 0) [] ys A k c rfl rfl ?own ?reads ?below ?size ?len ?_; (case own => exact own_nil _ _ _ _); (case reads => exact Hr.out); (case below => exact Below.refl _ _); (case size => simp); (case len => simp; omega); intro v1 w1 hown hb1 hg1 hat; rw [List.nil_append] at hown; obtain ⟨A1, c1, rfl, hc1, hr1⟩ := OB.slice hown; have HO := Lib.hid hown; have HB := Lib.hid hb1; have h0' := (hb1.cell (p := ⟨g, 0, none⟩) hg).trans h0; have f0' := (hb1.frozen (p := ⟨g, 0, none⟩) hg).trans f0; have Hb' := Lib.hid ((hb1.block g hg).trans Hb.out); clear hown hb1 hr1 hg1 hat)
  go_ret
  exact ⟨_, rfl, OB.set HO.out hg _ _, (H.out.below HB.out).moves Hb'.out Hkl.out HM.out HA.out, gset (gofBelow HB.out) _ _⟩
end Go.Proofs.Ytkecppgodmbmlaa.BR

namespace Go.Proofs.Ytkecppgodmbmlaa.BR
open Go.RowKit Go.Proofs.YtkecppgodmbmlaaW.PrintWords Go.Proofs.YtkecppgodmbmlaaW.PrintLast Go.Proofs.YtkecppgodmbmlaaW.PrintMore Go.Proofs.Ytkecppgodmbmlaa.CD
set_option linter.unusedVariables false
set_option linter.unusedSimpArgs false
theorem first_calls (A : Option Addr) (c : Nat) (xs : List Int) (w : World) (hr : ReadsInt w .u8 A xs.length xs) (hc : xs.length ≤ c) (hb : Bytes xs) (hs : xs.length ≤ 140737488355328) :
    Calls Try.prog 44 #[.slice A xs.length c] w fun e w' => e = .returned (.tuple #[.int .u64 ((dec xs).1 : Int), .int .i64 ((dec xs).2 : Int)]) ∧ Below w.heap.size w w' :=
  PPackGets.bedrockref04_First.calls 70 A c xs _ _ w (Kd.C_of_reads (d := (0 : Int)) (h1 := fun _ => rfl) hr) hc (first_f xs hb hs)
set_option maxHeartbeats 400000 in
set_option maxRecDepth 100000 in
theorem refnum_calls (g : Nat) (xs : List Int) (br : Bool) (w : World) (h : RRd w g xs br) :
    Calls Try.prog 45 #[.pointer (some ⟨g, 0, none⟩)] w fun e w' => e = .returned (.int .u64 ((rNum (xs, br)).1 : Int)) ∧ RRd w' g (rNum (xs, br)).2.1 (rNum (xs, br)).2.2 ∧ w.grownBy w' (some g) := by
  have H := Lib.hid h
  obtain ⟨A, c, hb, hc, hr, hne⟩ := h.cell
  have h0 := blk_cell hb 0
  have h1 := blk_cell hb 1
  simp only [List.getElem?_toArray, List.getElem?_cons_succ, List.getElem?_cons_zero] at h0 h1
  have HF := Lib.hid (first_calls A c xs w hr hc h.bytes h.small)
  clear hb hc hr hne h
  cases br with
  | true =>
    go_enter Try.func45, Try.ntmps45
    go_wp2
    go_ret
    exact ⟨rfl, H.out, World.grownBy.refl _ _⟩
  | false =>
    obtain ⟨⟨m, k⟩, hd⟩ : ∃ q, dec xs = q := ⟨_, rfl⟩
    have e : rNum (xs, false) = if k = 0 then (0, (xs, true)) else (m, (xs.drop k, false)) := by unfold rNum; simp only [Bool.false_eq_true, if_false]; rw [hd]
    rw [hd] at HF
    by_cases hk : k = 0
    · subst hk
      have hm := dec_none xs m hd
      subst hm
      rw [e, if_pos rfl]
      clear e hd
      go_enter Try.func45, Try.ntmps45
      go_wp2_with fail
      refine HF.out.mono ?_; rintro e w1 ⟨rfl, hb1⟩; have HB1 := Lib.hid hb1; clear hb1
      go_wp2_with fail
      refine (step_no g xs false (-1) _ (H.out.below HB1.out) (by omega)).mono ?_; rintro e w2 ⟨v2, rfl, ho2, hr2, hg2⟩; have HR2 := Lib.hid hr2; have HG2 := Lib.hid (gtrans (gofBelow HB1.out) hg2); clear ho2 hr2 hg2
      go_wp2
      go_ret
      exact ⟨rfl, HR2.out, HG2.out⟩
    · have hkl := (dec_back xs H.out.bytes m k hd hk).2.2.2.1
      have hk10 := (dec_back xs H.out.bytes m k hd hk).2.2.2.2.2
      rw [e, if_neg hk]
      have hkz : decide (k = 0) = false := decide_eq_false hk
      clear e hd
      go_enter Try.func45, Try.ntmps45
      go_wp2_with fail
      refine HF.out.mono ?_; rintro e w1 ⟨rfl, hb1⟩; have HB1 := Lib.hid hb1; clear hb1
      have kz : ((k : Int) == 0) = false := beq_eq_false_iff_ne.mpr (by omega)
      go_wp2_with fail
      refine (step_ok g xs false (k : Int) _ (H.out.below HB1.out) (by omega) (by omega)).mono ?_; rintro e w2 ⟨v2, rfl, ho2, hr2, hg2⟩; have HR2 := Lib.hid hr2; have HG2 := Lib.hid (gtrans (gofBelow HB1.out) hg2); clear ho2 hr2 hg2
      go_wp2
      go_ret
      exact ⟨rfl, HR2.out, HG2.out⟩
end Go.Proofs.Ytkecppgodmbmlaa.BR

namespace Go.Proofs.Ytkecppgodmbmlaa.BQ
open Go.RowKit Go.Proofs.YtkecppgodmbmlaaW.PrintWords Go.Proofs.YtkecppgodmbmlaaW.PrintLast Go.Proofs.YtkecppgodmbmlaaW.PrintMore Go.Proofs.Ytkecppgodmbmlaa.CD Go.Proofs.Ytkecppgodmbmlaa.BR
set_option linter.unusedVariables false
set_option linter.unusedSimpArgs false
variable {p : Nat → Prop}
structure RRd (p : Nat → Prop) (w : World) (g : Nat) (xs : List Int) (br : Bool) : Prop where
  cell : ∃ (A : Option Addr) (c : Nat), w.heap[g]? = some (.cells #[.slice A xs.length c, .bool br] 97 (0, 0)) ∧ xs.length ≤ c ∧ ReadsInt w .u8 A xs.length xs ∧ (∀ ad, A = some ad → 0 < xs.length → ad.block ≠ g)
  small : xs.length ≤ 140737488355328
  bytes : Bytes xs
  dat : ∀ (A : Option Addr) (c : Nat), w.heap[g]? = some (.cells #[.slice A xs.length c, .bool br] 97 (0, 0)) → ∀ ad, A = some ad → 0 < xs.length → p ad.block
theorem RRd.lt {w : World} {g : Nat} {xs : List Int} {br : Bool} (h : RRd p w g xs br) : g < w.heap.size := by
  obtain ⟨A, c, hb, _⟩ := h.cell
  exact blk_lt hb
theorem RRd.kept {w w' : World} {g : Nat} {xs : List Int} {br : Bool} (h : RRd p w g xs br) {row : Option Nat} (hg : w.grownBy w' row) (hne : some g ≠ row) (hdata : ∀ ad : Addr, some ad.block = row → ∀ A c, w.heap[g]? = some (.cells #[.slice A xs.length c, .bool br] 97 (0, 0)) → 0 < xs.length → A ≠ some ad) : RRd p w' g xs br := by
  obtain ⟨A, c, hb, hc, hr, hn⟩ := h.cell
  refine ⟨⟨A, c, (hg.block g (blk_lt hb) hne).trans hb, hc, reads_kept hr fun ad e h0 hl => hg.block _ hl (fun e2 => hdata ad e2 A c hb h0 e), hn⟩, h.small, h.bytes, fun A' c' hb' => h.dat A' c' ((hg.block g (blk_lt hb) hne).symm.trans hb')⟩
theorem RRd.far {w w' : World} {g : Nat} {xs : List Int} {br : Bool} (h : RRd p w g xs br) {row : Option Nat} (hg : w.grownBy w' row) (hne : some g ≠ row) (hp : ∀ k, row = some k → ¬ p k) : RRd p w' g xs br := h.kept hg hne fun ad e A c hb h0 hA => hp ad.block e.symm (h.dat A c hb ad hA h0)
theorem RRd.new {w1 : World} {A1 : Option Addr} {c1 : Nat} {xs : List Int} (hr : ReadsInt w1 .u8 A1 xs.length xs) (hc : xs.length ≤ c1) (hb : Bytes xs) (hs : xs.length ≤ 140737488355328) (hp : ∀ ad, A1 = some ad → 0 < xs.length → p ad.block) :
    RRd p (w1.alloc (.cells #[.slice A1 xs.length c1, .bool false] 97)) w1.heap.size xs false := by
  refine ⟨⟨A1, c1, blk_new _ _, hc, hr.below (below_alloc (Below.refl _ _) _), fun ad e h0 e2 => ?_⟩, hs, hb, fun A c h => by
    rw [blk_new] at h
    simp only [Option.some.injEq, Obj.cells.injEq, Array.mk.injEq, List.cons.injEq, Value.slice.injEq, and_true, true_and] at h
    obtain ⟨rfl, rfl⟩ := h
    exact hp⟩
  obtain ⟨ad', e', hcell⟩ := hr.2.2 h0
  rw [e] at e'
  obtain rfl := Option.some.inj e'
  have := World.block_lt_of_cell? w1 _ (hcell 0 h0)
  have hbk : (ad.add 0).block = ad.block := by unfold Addr.add; split <;> rfl
  omega
theorem RRd.below {w w' : World} {g : Nat} {xs : List Int} {br : Bool} (h : RRd p w g xs br) (hb : Below w.heap.size w w') : RRd p w' g xs br :=
  h.kept (gofBelow (row := none) hb) (by simp) (fun ad e => by cases e)
theorem RRd.drewN {w : World} {g : Nat} {xs : List Int} {br : Bool} (h : RRd p w g xs br) (n : Nat) : RRd p (w.drewN n) g xs br := h.below (pw_below_drewN (Below.refl _ _) n)
theorem RRd.breaks {w : World} {g : Nat} {xs : List Int} {br : Bool} (h : RRd p w g xs br) : RRd p (w.setCell ⟨g, 1, none⟩ (.bool true)) g xs true := by
  obtain ⟨A, c, hb, hc, hr, hn⟩ := h.cell
  refine ⟨⟨A, c, by rw [blk_set hb]; rfl, hc, reads_kept hr fun ad e h0 hl => Below.heap_setCell w _ _ _ (hn ad e h0), hn⟩, h.small, h.bytes, fun A' c' hb' => by
    have e1 : (w.setCell ⟨g, 1, none⟩ (.bool true)).heap[g]? = some (.cells #[.slice A xs.length c, .bool true] 97 (0, 0)) := by rw [blk_set hb]; rfl
    rw [e1] at hb'
    simp only [Option.some.injEq, Obj.cells.injEq, Array.mk.injEq, List.cons.injEq, Value.slice.injEq, and_true, true_and] at hb'
    obtain ⟨rfl, rfl⟩ := hb'
    exact h.dat A c hb⟩
theorem RRd.moves {w : World} {g : Nat} {xs : List Int} {br : Bool} (h : RRd p w g xs br) {A : Option Addr} {c : Nat} (hb : w.heap[g]? = some (.cells #[.slice A xs.length c, .bool br] 97 (0, 0))) {m : Nat} (hm : m ≤ xs.length) {A' : Option Addr}
    (hr : ∀ w, ReadsInt w .u8 A xs.length xs → ReadsInt w .u8 A' (xs.drop m).length (xs.drop m)) (ha : ∀ ad', A' = some ad' → ∃ ad, A = some ad ∧ ad.block = ad'.block) :
    RRd p (w.setCell ⟨g, 0, none⟩ (.slice A' (xs.length - m) (c - m))) g (xs.drop m) br := by
  obtain ⟨A2, c2, hb2, hc, hrd, hn⟩ := h.cell
  rw [hb2] at hb
  simp only [Option.some.injEq, Obj.cells.injEq, Array.mk.injEq, List.cons.injEq, Value.slice.injEq, and_true, true_and] at hb
  obtain ⟨rfl, rfl⟩ := hb
  have hl : (xs.drop m).length = xs.length - m := List.length_drop
  have hne : ∀ ad', A' = some ad' → 0 < (xs.drop m).length → ad'.block ≠ g := fun ad' e h0 => by
    obtain ⟨ad, e1, e2⟩ := ha ad' e
    rw [← e2]
    exact hn ad e1 (by omega)
  refine ⟨⟨A', c2 - m, by rw [blk_set hb2, hl]; rfl, by omega, reads_kept (hr w hrd) fun ad e h0 hlt => Below.heap_setCell w _ _ _ (hne ad e h0), hne⟩, by have := h.small; omega, h.bytes.drop m, fun A9 c9 hb9 ad9 e9 h9 => by
    have e1 : (w.setCell ⟨g, 0, none⟩ (.slice A' (xs.length - m) (c2 - m))).heap[g]? = some (.cells #[.slice A' (xs.drop m).length (c2 - m), .bool br] 97 (0, 0)) := by rw [blk_set hb2, hl]; rfl
    rw [e1] at hb9
    simp only [Option.some.injEq, Obj.cells.injEq, Array.mk.injEq, List.cons.injEq, Value.slice.injEq, and_true, true_and] at hb9
    obtain ⟨rfl, rfl⟩ := hb9
    obtain ⟨ad, e1, e2⟩ := ha ad9 e9
    rw [← e2]
    exact h.dat A2 c2 hb2 ad e1 (by omega)⟩
set_option maxRecDepth 100000 in
theorem step_no (g : Nat) (xs : List Int) (br : Bool) (n : Int) (w : World) (h : RRd p w g xs br) (hn : n < 0 ∨ n > (xs.length : Int)) :
    Calls Try.prog 51 #[.pointer (some ⟨g, 0, none⟩), .int .i64 n] w fun e w' => ∃ v, e = .returned v ∧ OB w' w.heap.size v [] ∧ RRd p w' g xs true ∧ w.grownBy w' (some g) := by
  have H := Lib.hid h
  obtain ⟨A, c, hb, hc, hr, hne⟩ := h.cell
  have h0 := blk_cell hb 0
  have h2 := blk_cell hb 1
  have f2 := blk_frozen hb 1
  simp only [List.getElem?_toArray, List.getElem?_cons_succ, List.getElem?_cons_zero] at h0 h2
  clear hb hc hr hne h
  by_cases h1 : n < 0
  · have hd : decide (n < 0) = true := decide_eq_true h1
    clear hn
    go_enter Try.func51, Try.ntmps51
    go_wp2_with fail
    go_ret
    exact ⟨_, rfl, own_nil _ _ _ _, H.out.breaks, gset (World.grownBy.refl _ _) _ _⟩
  · have hd : decide (n < 0) = false := decide_eq_false h1
    have hd2 : decide ((xs.length : Int) < n) = true := decide_eq_true (by omega)
    clear hn
    go_enter Try.func51, Try.ntmps51
    go_wp2_with fail
    go_ret
    exact ⟨_, rfl, own_nil _ _ _ _, H.out.breaks, gset (World.grownBy.refl _ _) _ _⟩
theorem step_ok (g : Nat) (xs : List Int) (br : Bool) (n : Int) (w : World) (h : RRd p w g xs br) (hn0 : 0 ≤ n) (hn1 : n ≤ (xs.length : Int)) :
    Calls Try.prog 51 #[.pointer (some ⟨g, 0, none⟩), .int .i64 n] w fun e w' => ∃ v, e = .returned v ∧ OB w' w.heap.size v (xs.take n.toNat) ∧ RRd p w' g (xs.drop n.toNat) br ∧ w.grownBy w' (some g) := by
  have H := Lib.hid h
  obtain ⟨k, rfl⟩ := Int.eq_ofNat_of_zero_le hn0
  rw [Int.toNat_natCast]
  have hkl : k ≤ xs.length := by omega
  obtain ⟨A, c, hb, hc, hr, hne⟩ := h.cell
  have hg := blk_lt hb
  have h0 := blk_cell hb 0
  have f0 := blk_frozen hb 0
  simp only [List.getElem?_toArray, List.getElem?_cons_succ, List.getElem?_cons_zero] at h0
  obtain ⟨A', hcut, hrd, hA'⟩ := cutFrom A xs c k hkl hc
  have hto := cut_to (P := Try.prog) 26 5 .i64 Try.underlying26 (info_parts infoU8).choose_spec.1 A xs.length c (k : Int) (by omega) (by omega) hc
  simp only [Int.toNat_natCast] at hto
  have hrt := hr.take_ k hkl
  obtain ⟨ys, hys⟩ : ∃ ys, ys = xs.take k := ⟨_, rfl⟩
  rw [← hys] at hrt ⊢
  have hyl : ys.length ≤ 140737488355328 := by rw [hys, List.length_take]; have := h.small; omega
  have hyk : k ≤ 140737488355328 := by have := h.small; omega
  have Hb := Lib.hid hb
  have HM := Lib.hid hrd
  have HA := Lib.hid hA'
  have Hr := Lib.hid hrt
  have Hkl := Lib.hid hkl
  have h0a : ∀ (n : Nat) (o : Obj), ((w.drewN n).alloc o).cell? ⟨g, 0, none⟩ = some (.slice A xs.length c) := fun n o => pw_cell_below (below_alloc (pw_below_drewN (Below.refl _ _) _) _) h0
  have hd : decide ((k : Int) < 0) = false := decide_eq_false (by omega)
  have hd2 : decide (xs.length < k) = false := decide_eq_false (by omega)
  clear hb hc hr hne h hrd hA' hkl hn0 hn1 hrt hys
  go_enter Try.func51, Try.ntmps51
  go_wp2_with (at_builtin; refine print_append_row (w0 := w) w.heap.size rfl (.tmp 20) (.tmp 26) 26 5 .u8 1 rfl Try.underlying26 infoU8 (by decide) (.slice none 0 0) [] ys A k c rfl rfl ?own ?reads ?below ?size ?len ?_; (case own => exact own_nil _ _ _ _); (case reads => exact Hr.out); (case below => exact Below.refl _ _); (case size => simp); (case len => simp; omega); intro v1 w1 hown hb1 hg1 hat; rw [List.nil_append] at hown; obtain ⟨A1, c1, rfl, hc1, hr1⟩ := OB.slice hown; have HO := Lib.hid hown; have HB := Lib.hid hb1; have h0' := (hb1.cell (p := ⟨g, 0, none⟩) hg).trans h0; have f0' := (hb1.frozen (p := ⟨g, 0, none⟩) hg).trans f0; have Hb' := Lib.hid ((hb1.block g hg).trans Hb.out); clear hown hb1 hr1 hg1 hat)
  go_ret
  exact ⟨_, rfl, OB.set HO.out hg _ _, (H.out.below HB.out).moves Hb'.out Hkl.out HM.out HA.out, gset (gofBelow HB.out) _ _⟩
set_option maxHeartbeats 400000 in
set_option maxRecDepth 100000 in
theorem refnum_calls (g : Nat) (xs : List Int) (br : Bool) (w : World) (h : RRd p w g xs br) :
    Calls Try.prog 45 #[.pointer (some ⟨g, 0, none⟩)] w fun e w' => e = .returned (.int .u64 ((rNum (xs, br)).1 : Int)) ∧ RRd p w' g (rNum (xs, br)).2.1 (rNum (xs, br)).2.2 ∧ w.grownBy w' (some g) := by
  have H := Lib.hid h
  obtain ⟨A, c, hb, hc, hr, hne⟩ := h.cell
  have h0 := blk_cell hb 0
  have h1 := blk_cell hb 1
  simp only [List.getElem?_toArray, List.getElem?_cons_succ, List.getElem?_cons_zero] at h0 h1
  have HF := Lib.hid (first_calls A c xs w hr hc h.bytes h.small)
  clear hb hc hr hne h
  cases br with
  | true =>
    go_enter Try.func45, Try.ntmps45
    go_wp2
    go_ret
    exact ⟨rfl, H.out, World.grownBy.refl _ _⟩
  | false =>
    obtain ⟨⟨m, k⟩, hd⟩ : ∃ q, dec xs = q := ⟨_, rfl⟩
    have e : rNum (xs, false) = if k = 0 then (0, (xs, true)) else (m, (xs.drop k, false)) := by unfold rNum; simp only [Bool.false_eq_true, if_false]; rw [hd]
    rw [hd] at HF
    by_cases hk : k = 0
    · subst hk
      have hm := dec_none xs m hd
      subst hm
      rw [e, if_pos rfl]
      clear e hd
      go_enter Try.func45, Try.ntmps45
      go_wp2_with fail
      refine HF.out.mono ?_; rintro e w1 ⟨rfl, hb1⟩; have HB1 := Lib.hid hb1; clear hb1
      go_wp2_with fail
      refine (step_no g xs false (-1) _ (H.out.below HB1.out) (by omega)).mono ?_; rintro e w2 ⟨v2, rfl, ho2, hr2, hg2⟩; have HR2 := Lib.hid hr2; have HG2 := Lib.hid (gtrans (gofBelow HB1.out) hg2); clear ho2 hr2 hg2
      go_wp2
      go_ret
      exact ⟨rfl, HR2.out, HG2.out⟩
    · have hkl := (dec_back xs H.out.bytes m k hd hk).2.2.2.1
      have hk10 := (dec_back xs H.out.bytes m k hd hk).2.2.2.2.2
      rw [e, if_neg hk]
      have hkz : decide (k = 0) = false := decide_eq_false hk
      clear e hd
      go_enter Try.func45, Try.ntmps45
      go_wp2_with fail
      refine HF.out.mono ?_; rintro e w1 ⟨rfl, hb1⟩; have HB1 := Lib.hid hb1; clear hb1
      have kz : ((k : Int) == 0) = false := beq_eq_false_iff_ne.mpr (by omega)
      go_wp2_with fail
      refine (step_ok g xs false (k : Int) _ (H.out.below HB1.out) (by omega) (by omega)).mono ?_; rintro e w2 ⟨v2, rfl, ho2, hr2, hg2⟩; have HR2 := Lib.hid hr2; have HG2 := Lib.hid (gtrans (gofBelow HB1.out) hg2); clear ho2 hr2 hg2
      go_wp2
      go_ret
      exact ⟨rfl, HR2.out, HG2.out⟩
end Go.Proofs.Ytkecppgodmbmlaa.BQ

namespace Go.Proofs.Ytkecppgodmbmlaa.PK
open Go.RowKit Go.Proofs.YtkecppgodmbmlaaW.PrintWords Go.Proofs.YtkecppgodmbmlaaW.PrintLast Go.Proofs.YtkecppgodmbmlaaW.PrintMore Go.Proofs.Ytkecppgodmbmlaa.CD Go.Proofs.Ytkecppgodmbmlaa.BR
set_option linter.unusedVariables false
set_option linter.unusedSimpArgs false
theorem infoTickR : (Try.prog.info? 48).map (fun i => (i.zero, i.size, i.bytes)) = some (some (.agg #[.int .i64 0, .int .i64 0]), 2, 16) := by kernel_rfl
theorem rNum_ltR (X : List Int) (br : Bool) (hX : Bytes X) : (rNum (X, br)).1 < 18446744073709551616 := by
  unfold rNum
  cases br with
  | true => exact (by decide : (0 : Nat) < 18446744073709551616)
  | false =>
    simp only [Bool.false_eq_true, if_false]
    split
    · exact (by decide : (0 : Nat) < 18446744073709551616)
    · rename_i h
      exact (dec_back X hX _ _ rfl h).1
theorem TS.small {b : List Int} {T : List Pr} {X : List Int} {br : Bool} {many : Nat} {was : Int} (h : TS b T X br many was) (h1 : 1 ≤ many) : ∀ C0 L0 T0, Pk b C0 L0 T0 → (rNum (X, br)).1 ≤ 4096 ∧ (rNum (rNum (X, br)).2).1 ≤ 2199023255552 := fun C0 L0 T0 hp => by
  obtain ⟨rfl, T1, hT, rfl, hm, hok, hw1, hw2⟩ := h C0 L0 T0 hp
  cases T1 with
  | nil => simp at hm; omega
  | cons t r =>
    obtain ⟨⟨a, c⟩, ⟨d, e⟩, hr⟩ := tOk_cons hok
    simp only [tBytes]
    rw [num_next _ _ (by omega)]
    simp only
    rw [num_next _ _ (by omega)]
    simp only
    omega
def Ticked (b : List Int) (w : World) (e : Ending) (w' : World) : Prop :=
  ∃ (T : List Pr) (v : Value) (is : Bool), e = .returned (.tuple #[v, .bool is]) ∧ Kd.R kT 48 w' w.heap.size (fun _ => True) v T ∧ T.length ≤ 4096 ∧ (∀ C0 L0 T0, Pk b C0 L0 T0 → is = true ∧ T0 = T) ∧ Below w.heap.size w w'
structure Rl (w W : World) (rg : Nat) (b : List Int) (T : List Pr) (s : St) (v : Value) (many : Nat) (at_ : Int) : Prop where
  below : Below w.heap.size w W
  rdr : BQ.RRd (fun k => k < rg) W rg s.1 s.2
  tk : Kd.R kT 48 W w.heap.size (fun k => rg < k) v T
  ts : TS b T s.1 s.2 many at_
set_option maxHeartbeats 2000000 in
set_option maxRecDepth 100000 in
theorem rticks_calls (A : Option Addr) (c : Nat) (b X : List Int) (w : World) (hr : ReadsInt w .u8 A X.length X) (hc : X.length ≤ c) (hb : Bytes X) (hs : X.length ≤ 140737488355328) (hst : ∀ C0 L0 T0, Pk b C0 L0 T0 → X = tailT T0) (n : Nat) (hn : X.length = n) :
    Calls Try.prog 36 #[.slice A n c] w (Ticked b w) := by
  subst hn
  have hrd0 := BQ.RRd.new (p := fun k => k < w.heap.size) hr hc hb hs (fun ad e h0 => by
    obtain ⟨ad', e', hcell⟩ := hr.2.2 h0
    rw [e] at e'
    obtain rfl := Option.some.inj e'
    have := World.block_lt_of_cell? w _ (hcell 0 h0)
    have hbk : (ad.add 0).block = ad.block := by unfold Addr.add; split <;> rfl
    omega)
  have hNum := Lib.hid (BQ.refnum_calls _ X false _ hrd0)
  have HTS := TS.start (b := b) (X := X) hst
  have hnr := rNum_ltR X false hb
  have hfew : ∀ C0 L0 T0, Pk b C0 L0 T0 → (rNum (X, false)).1 ≤ 4096 := fun C0 L0 T0 hp => by
    rw [hst C0 L0 T0 hp]
    unfold tailT
    have := hp.few
    rw [num_next _ _ (by omega)]
    exact this
  obtain ⟨⟨m, s0⟩, hms⟩ : ∃ q, rNum (X, false) = q := ⟨_, rfl⟩
  rw [hms] at hNum HTS hnr hfew
  simp only at hNum HTS hnr hfew
  have HT0 := Lib.hid HTS
  have HFW := Lib.hid hfew
  clear hr hc hb hrd0 HTS hms hst hfew
  go_enter Try.func36, Try.ntmps36
  go_wp2_with fail
  refine hNum.out.mono ?_; rintro e w1 ⟨rfl, hrd, hg⟩
  have hsz : w.heap.size < w1.heap.size := hrd.lt
  by_cases hm : 4096 < m
  · have d1 := decide_eq_true (show (4096 : Int) < (m : Int) by omega)
    have hF := Lib.hid (show ∀ C0 L0 T0, Pk b C0 L0 T0 → (false : Bool) = true ∧ T0 = [] from fun C0 L0 T0 hp => absurd (HFW.out C0 L0 T0 hp) (by omega))
    have HB1 := Lib.hid (belowg (below_alloc (Below.refl _ w) _) hg (below_alloc (Below.refl _ w) _).size (Nat.le_refl _))
    clear hrd hg hNum
    go_wp2
    go_ret2
    exact ⟨[], _, false, rfl, Kd.R_nil _ _ _ _ _, by simp, hF.out, HB1.out⟩
  · have d1 := decide_eq_false (show ¬ (4096 : Int) < (m : Int) by omega)
    have HL0 := Lib.hid (⟨belowg (below_alloc (Below.refl _ w) _) hg (below_alloc (Below.refl _ w) _).size (Nat.le_refl _), hrd, Kd.R_nil _ _ _ _ _, HT0.out⟩ : Rl w w1 w.heap.size b [] s0 (.slice none 0 0) m (-1))
    clear hrd hg hNum
    go_wp2_with fail
    go_loopw [6, 7, 8] (fun lv av kv W => ∃ (T : List Pr) (at_ : Int) (s : St), av = .int .i64 at_ ∧ kv = .int .u64 (T.length : Int) ∧ T.length ≤ m ∧ (-1 ≤ at_ ∧ at_ ≤ 4097 * (T.length : Int)) ∧ Aside0 (Rl w W w.heap.size b T s lv (m - T.length) at_)) (fun _ _ kv _ => m - (intOf kv).toNat)
    case atStart => exact ⟨[], -1, s0, rfl, rfl, by simp, by simp, ⟨HL0.out⟩⟩
    case round =>
      obtain ⟨T, at_, s, rfl, rfl, hTm, hatb, ⟨hrl⟩⟩ := hrel
      have HL := Lib.hid hrl
      obtain ⟨A7, c7, rfl, hc7, _⟩ := Kd.R_reads hrl.tk
      clear hrl hc7
      by_cases hlt : T.length < m
      · have d2 := decide_eq_true (show (T.length : Int) < (m : Int) by omega)
        have hb1 : Bytes s.1 := HL.out.rdr.bytes
        have hNum := Lib.hid (BQ.refnum_calls w.heap.size s.1 s.2 _ HL.out.rdr)
        have hn1 := rNum_ltR s.1 s.2 hb1
        have HTS := HL.out.ts.step (by omega)
        have hsm := HL.out.ts.small (by omega)
        obtain ⟨⟨n1, s1⟩, hs1⟩ : ∃ q, rNum (s.1, s.2) = q := ⟨_, rfl⟩
        rw [hs1] at hNum HTS hn1 hsm
        simp only at hNum HTS hn1 hsm
        have HTS1 := Lib.hid HTS
        have HSM1 := Lib.hid hsm
        clear hs1 hb1 HTS hsm
        go_wp2_with fail
        refine hNum.out.mono ?_; rintro e w2 ⟨rfl, hrd1, hg1⟩
        have HB2 := Lib.hid (belowg HL.out.below hg1 HL.out.below.size (Nat.le_refl _))
        have HK2 := Lib.hid (Kd.R_grown HL.out.tk hg1 (fun k hk => by simp; omega))
        have hNum2 := Lib.hid (BQ.refnum_calls w.heap.size s1.1 s1.2 w2 hrd1)
        have hb2 : Bytes s1.1 := hrd1.bytes
        have hn2 := rNum_ltR s1.1 s1.2 hb2
        have HTS2 := HTS1.out
        have hsm2 := HSM1.out
        obtain ⟨⟨n2, s2⟩, hs2⟩ : ∃ q, rNum (s1.1, s1.2) = q := ⟨_, rfl⟩
        rw [show rNum s1 = rNum (s1.1, s1.2) from rfl, hs2] at HTS2 hsm2
        rw [hs2] at hNum2 hn2
        simp only at hNum2 hn2 HTS2 hsm2
        have HTS3 := Lib.hid HTS2
        have HSM3 := Lib.hid hsm2
        clear hs2 hb2 HTS2 hsm2 hrd1 hg1 hNum HTS1 HSM1
        go_wp2_with fail
        refine hNum2.out.mono ?_; rintro e w3 ⟨rfl, hrd2, hg2⟩
        have HB3 := Lib.hid (belowg HB2.out hg2 HB2.out.size (Nat.le_refl _))
        have HK3 := Lib.hid (Kd.R_grown HK2.out hg2 (fun k hk => by simp; omega))
        have HRD3 := Lib.hid hrd2
        have hrl : w.heap.size < w3.heap.size := hrd2.lt
        clear hrd2 hg2 hNum2 HB2 HK2
        by_cases h1 : 4096 < n1
        · have e1 := decide_eq_true (show (4096 : Int) < (n1 : Int) by omega)
          have hF := Lib.hid (show ∀ C0 L0 T0, Pk b C0 L0 T0 → (false : Bool) = true ∧ T0 = [] from fun C0 L0 T0 hp => absurd (HSM3.out C0 L0 T0 hp).1 (by omega))
          go_wp2
          go_ret2
          exact ⟨[], _, false, rfl, Kd.R_nil _ _ _ _ _, by simp, hF.out, HB3.out⟩
        · have e1 := decide_eq_false (show ¬ (4096 : Int) < (n1 : Int) by omega)
          by_cases h2 : 2199023255552 < n2
          · have e2 := decide_eq_true (show (2199023255552 : Int) < (n2 : Int) by omega)
            have hF := Lib.hid (show ∀ C0 L0 T0, Pk b C0 L0 T0 → (false : Bool) = true ∧ T0 = [] from fun C0 L0 T0 hp => absurd (HSM3.out C0 L0 T0 hp).2 (by omega))
            go_wp2
            go_ret2
            exact ⟨[], _, false, rfl, Kd.R_nil _ _ _ _ _, by simp, hF.out, HB3.out⟩
          · have e2 := decide_eq_false (show ¬ (2199023255552 : Int) < (n2 : Int) by omega)
            have hm1 : min n1 4096 = n1 := by omega
            have hm2 : min n2 2199023255553 = n2 := by omega
            have HTS4 := HTS3.out
            rw [hm1, hm2] at HTS4
            obtain ⟨a1, ha1⟩ : ∃ a1 : Int, at_ + 1 + (n1 : Int) = a1 := ⟨_, rfl⟩
            have ha1b : -1 ≤ a1 ∧ a1 ≤ 4097 * ((T.length : Int) + 1) := by omega
            rw [show at_ + (1 + (n1 : Int)) = a1 by omega] at HTS4
            have HTS5 := Lib.hid HTS4
            clear HTS4 HTS3 HSM3 hm1 hm2
            go_wp2_with (at_builtin; refine Kd.R_append kT (w0 := w) w.heap.size rfl (.tmp 38) (.tmp 43) 23 48 (.agg #[.int .i64 0, .int .i64 0]) 16 rfl Try.underlying23 infoTickR (by rfl) (by decide) (by decide) (.slice A7 T.length c7) T (a1, (n2 : Int)) [.int .i64 a1, .int .i64 (n2 : Int)] (fun k => w.heap.size < k) (fun _ => False) rfl rfl ⟨[_], [_], rfl, rfl, rfl⟩ (fun _ h => h.elim) (fun q hq => by omega) HK3.out HB3.out HB3.out.size (by omega) ?_; intro v6 w6 hr6 hb6 hg6 hat6; have HR6 := Lib.hid hr6; have HB6 := Lib.hid hb6; have HRD6 := Lib.hid (HRD3.out.far hg6 (fun e => by have := HK3.out.1 _ e.symm; omega) (fun k e hk => by have := HK3.out.1 _ e; omega)); clear hr6 hb6 hg6 hat6)
            have hlT : (T ++ [(a1, (n2 : Int))]).length = T.length + 1 := by rw [List.length_append, List.length_singleton]
            have HN := Lib.hid (⟨HB6.out, HRD6.out, HR6.out, by rw [hlT, show m - (T.length + 1) = m - T.length - 1 by omega]; exact HTS5.out⟩ : Rl w w6 w.heap.size b (T ++ [(a1, (n2 : Int))]) s2 v6 (m - (T ++ [(a1, (n2 : Int))]).length) a1)
            clear HTS5 HB6 HRD6 HR6 HK3 HB3 HRD3
            go_roundw
            case rel => exact ⟨T ++ [(a1, (n2 : Int))], a1, s2, rfl, by rw [hlT]; go_num, by omega, by rw [hlT]; omega, ⟨HN.out⟩⟩
            case measure => simp [intOf]; omega
      · have d2 := decide_eq_false (show ¬ (T.length : Int) < (m : Int) by omega)
        have HE := Lib.hid (HL.out.ts.stop (.inl (by omega)))
        have HI := Lib.hid (show ∀ C0 L0 T0, Pk b C0 L0 T0 → s.2 = false from fun C0 L0 T0 hp => (HL.out.ts C0 L0 T0 hp).1)
        obtain ⟨Ab, cb, hblk, _⟩ := HL.out.rdr.cell
        have f1 := blk_cell hblk 1
        simp only [List.getElem?_toArray, List.getElem?_cons_succ, List.getElem?_cons_zero] at f1
        obtain ⟨br, hbr⟩ : ∃ br, s.2 = br := ⟨_, rfl⟩
        rw [hbr] at f1
        have HBR := Lib.hid hbr
        clear hblk hbr
        go_wp2_with fail
        go_quiet (fail)
        go_wp2
        go_ret2
        exact ⟨T, .slice A7 T.length c7, !br, rfl, Kd.R_below (Kd.R_mono HL.out.tk (fun _ _ => trivial)) (by repeat (first | exact Below.refl _ _ | apply below_drew | apply pw_below_drewN)), by omega, fun C0 L0 T0 hp => ⟨by rw [← HBR.out, HI.out C0 L0 T0 hp]; rfl, HE.out C0 L0 T0 hp⟩, by repeat (first | exact HL.out.below | apply below_drew | apply pw_below_drewN)⟩
end Go.Proofs.Ytkecppgodmbmlaa.PK

namespace Go.Proofs.Ytkecppgodmbmlaa.PK
open Go.RowKit Go.Proofs.YtkecppgodmbmlaaW.PrintWords Go.Proofs.YtkecppgodmbmlaaW.PrintLast Go.Proofs.YtkecppgodmbmlaaW.PrintMore Go.Proofs.Ytkecppgodmbmlaa.CD Go.Proofs.Ytkecppgodmbmlaa.BR
set_option linter.unusedVariables false
set_option linter.unusedSimpArgs false
theorem refMay_f (p : Pr) (hp : (0 ≤ p.1 ∧ p.1 < 256) ∧ 0 ≤ p.2 ∧ p.2 < 256) : PPackGets.bedrockref01_May.f p.1 p.2 = some (mayK p) := by
  obtain ⟨k, l⟩ := p
  simp only at hp ⊢
  unfold PPackGets.bedrockref01_May.f mayK lv
  simp only
  by_cases h : 15 ≤ k
  · rw [if_pos h, decide_eq_false (show ¬ k < 15 by omega)]; rfl
  · rw [if_neg h, decide_eq_true (show k < 15 by omega)]
    unfold PPackGets.bedrockref01_Levels.f
    by_cases h1 : k = 11
    · subst h1
      simp only [if_true, Option.bind_some]
      by_cases h2 : 15 < l
      · rw [if_pos h2, decide_eq_false (show ¬ l ≤ 15 by omega)]; simp
      · rw [if_neg h2, decide_eq_true (show l ≤ 15 by omega)]
        by_cases h3 : 0 < l
        · rw [decide_eq_true h3, decide_eq_true (show 1 ≤ l by omega)]; rfl
        · rw [decide_eq_false h3, decide_eq_false (show ¬ 1 ≤ l by omega)]; rfl
    · by_cases h2 : k = 12
      · subst h2
        simp
        by_cases h3 : 3 < l
        · rw [if_pos h3]; simp; omega
        · rw [if_neg h3]; simp; omega
      · by_cases h3 : k = 13
        · subst h3
          simp
          by_cases h4 : 7 < l
          · rw [if_pos h4]; simp; omega
          · rw [if_neg h4]; simp; omega
        · by_cases h4 : k = 14
          · subst h4
            simp
            by_cases h5 : 1 < l
            · rw [if_pos h5]; simp; omega
            · rw [if_neg h5]; simp; omega
          · rw [if_neg h1, if_neg h2, if_neg h3, if_neg h4, if_neg h1, if_neg h2, if_neg h3, if_neg h4]
            simp only [Option.bind_some]
            by_cases h5 : 0 < l
            · rw [if_pos h5, if_neg h1]
              simp only [decide_eq_false (show ¬ l ≤ 0 by omega), Bool.and_false]
            · rw [if_neg h5, if_neg h1, decide_eq_true (show l ≤ 0 by omega), decide_eq_true (show 0 ≤ l by omega)]; rfl
theorem refMay_calls (p : Pr) (hp : (0 ≤ p.1 ∧ p.1 < 256) ∧ 0 ≤ p.2 ∧ p.2 < 256) (w : World) : Calls Try.prog 38 #[.agg #[.int .u8 p.1, .int .u8 p.2]] w fun e w' => e = .returned (.bool (mayK p)) ∧ Below w.heap.size w w' :=
  PPackGets.bedrockref01_May.calls p.1 p.2 _ w (refMay_f p hp)
def toS (p : Pr) : PPackGets.S34 := ⟨p.1, p.2⟩
def pl (P : List Pr) (p : Pr) : Int := match lk 0 P p with | some j => (j : Int) | none => -1
theorem place_l0 (P : List Pr) (p : Pr) (hl : P.length ≤ 1000000) : ∀ (d i F : Nat), i + d = P.length → d < F → PPackGets.bedrockref06_place.l0 F (P.map toS) (i : Int) p.1 p.2 = some (match lk i (P.drop i) p with | some j => (j : Int) | none => -1)
  | 0, i, F, hi, hF => by
    obtain ⟨F, rfl⟩ : ∃ q, F = q + 1 := ⟨F - 1, by omega⟩
    rw [PPackGets.bedrockref06_place.l0, List.length_map, if_neg (by omega), List.drop_of_length_le (by omega)]
    rfl
  | d + 1, i, F, hi, hF => by
    obtain ⟨F, rfl⟩ : ∃ q, F = q + 1 := ⟨F - 1, by omega⟩
    have hil : i < P.length := by omega
    have e1 : wrap64 ((i : Int) + 1) = ((i + 1 : Nat) : Int) := by unfold wrap64; omega
    have e2 : PPackGets.rd_T34 (P.map toS) (i : Int) = toS P[i] := by
      unfold PPackGets.rd_T34
      rw [Int.toNat_natCast, List.getD_eq_getElem?_getD, List.getElem?_map, List.getElem?_eq_getElem hil]
      rfl
    rw [PPackGets.bedrockref06_place.l0, List.length_map, if_pos (by omega), if_pos (by omega), e2, e1, List.drop_eq_getElem_cons hil, lk]
    obtain ⟨q, hq⟩ : ∃ q, P[i] = q := ⟨_, rfl⟩
    rw [hq]
    by_cases h : p = q
    · subst h
      rw [if_pos (by unfold toS; simp), if_pos rfl]
    · rw [if_neg (fun e => h (by
        unfold toS at e
        rw [Bool.and_eq_true, beq_iff_eq, beq_iff_eq] at e
        exact Prod.ext e.1.symm e.2.symm)), if_neg h]
      exact place_l0 P p hl d (i + 1) F (by omega) (by omega)
theorem place_calls (P : List Pr) (p : Pr) (A : Option Addr) (c : Nat) (w : World) (hl : P.length ≤ 1000000) (hr : Kd.C PPackGets.k34 w A P.length (P.map toS)) (hc : P.length ≤ c) :
    Calls Try.prog 26 #[.slice A P.length c, .agg #[.int .u8 p.1, .int .u8 p.2]] w fun e w' => e = .returned (.int .i64 (pl P p)) ∧ Below w.heap.size w w' := by
  have h := PPackGets.bedrockref06_place.calls (P.length + 1) A c (P.map toS) p.1 p.2 (pl P p) w (by rw [List.length_map]; exact hr) (by rw [List.length_map]; exact hc) (by
    unfold PPackGets.bedrockref06_place.f
    exact place_l0 P p hl P.length 0 (P.length + 1) (by omega) (by omega))
  rw [List.length_map] at h
  exact h
theorem refNum_l0 : ∀ (k j n : Nat) (x : List Int), n < 128 ^ (k + 1) → n < 18446744073709551616 → x.length + k < 140737488355328 → k < j → PPackGets.bedrockref04_Num.l0 j (n : Int) x = some (x ++ numF k n)
  | 0, j, n, x, hn, h64, hx, hj => by
    obtain ⟨j, rfl⟩ : ∃ m, j = m + 1 := ⟨j - 1, by omega⟩
    simp only [PPackGets.bedrockref04_Num.l0, numF]
    rw [if_neg (by omega), if_pos (by omega), show ((n : Int) % 256) = (n : Int) by omega]
  | k + 1, j, n, x, hn, h64, hx, hj => by
    obtain ⟨j, rfl⟩ : ∃ m, j = m + 1 := ⟨j - 1, by omega⟩
    simp only [PPackGets.bedrockref04_Num.l0]
    by_cases h : n < 128
    · rw [numF_small _ _ h, if_neg (by omega), if_pos (by omega), show ((n : Int) % 256) = (n : Int) by omega]
    · have e1 : IntKind.u64.wrap (Int.tdiv (n : Int) 128) = ((n / 128 : Nat) : Int) := by
        rw [Int.tdiv_eq_ediv_of_nonneg (by omega), CF.wu64]; omega
      have e2 : (IntKind.u64.wrap ((Int.tmod (n : Int) 128) + 128)) % 256 = ((n % 128 + 128 : Nat) : Int) := by
        rw [Int.tmod_eq_emod_of_nonneg (by omega), CF.wu64]; omega
      rw [numF_big k n (by omega), if_pos (by omega), if_pos (by omega), e1, e2]
      clear e1 e2
      rw [refNum_l0 k j (n / 128) _ (by rw [Nat.pow_succ] at hn; omega) (by omega) (by simp; omega) (by omega)]
      simp
theorem refNum_f (n k : Nat) (hn : n < 18446744073709551616) (hk : 9 < k) : PPackGets.bedrockref04_Num.f k (n : Int) = some (num n) := by
  unfold PPackGets.bedrockref04_Num.f
  rw [refNum_l0 9 k n [] (by omega) hn (by simp) hk]
  rfl
theorem refNum_calls (n : Nat) (w : World) (hn : n < 18446744073709551616) : Calls Try.prog 28 #[.int .u64 (n : Int)] w fun e w' => ∃ v, e = .returned v ∧ OB w' w.heap.size v (num n) ∧ Below w.heap.size w w' :=
  (PPackGets.bedrockref04_Num.calls 12 (n : Int) _ w (refNum_f n 12 hn (by decide))).mono fun e w' ⟨v, he, hR, hb⟩ => ⟨v, he, OB.of_R hR, hb⟩
theorem rd_drop (l : List Int) (i : Nat) (x : Int) (r : List Int) (hd : l.drop i = x :: r) : rd l (i : Int) = x := by
  have hlen := congrArg List.length hd
  rw [List.length_drop, List.length_cons] at hlen
  have hil : i < l.length := by omega
  unfold rd
  rw [Int.toNat_natCast, List.getD_eq_getElem?_getD]
  rw [List.drop_eq_getElem_cons hil] at hd
  injection hd with h1 h2
  rw [List.getElem?_eq_getElem hil, h1]; rfl
theorem wn1 (i : Nat) (h : i < 10000) : wrap64 ((i : Int) + 1) = ((i + 1 : Nat) : Int) := by unfold wrap64; omega
theorem un1 (n : Nat) (h : n < 10000) : IntKind.u64.wrap ((n + 1 : Nat) : Int) = ((n + 1 : Nat) : Int) := CF.wu64_id _ (by omega) (by omega)
theorem refPut_l0 (l : List Int) (hl : l.length ≤ 10000) : ∀ (r : List Int) (x : Int) (n i F : Nat) (acc : List Int), l.drop i = x :: r → n ≤ i → r.length + 12 < F → acc.length + 12 * (r.length + 1) ≤ 1000000 →
    PPackGets.bedrockref05_Put.l0 F l acc (n : Int) (i : Int) = some (acc ++ RU.rBytes (RU.runF (n + 1) x r)) := by
  intro r
  induction r with
  | nil =>
    intro x n i F acc hd hn hF ha
    obtain ⟨F, rfl⟩ : ∃ q, F = q + 1 := ⟨F - 1, by omega⟩
    have hlen := congrArg List.length hd
    rw [List.length_drop, List.length_cons] at hlen
    have hil : i < l.length := by omega
    have hx := Lib.hid (rd_drop l i x _ hd)
    have hdr : l.drop (i + 1) = [] := by
      rw [List.drop_eq_getElem_cons hil] at hd
      injection hd with h1 h2
    have hi9 : i < 10000 := by omega
    have hnl := num_le (n + 1)
    have e1 := wn1 i (by omega)
    have e2 := wn1 n (by omega)
    have e3 := un1 n (by omega)
    rw [PPackGets.bedrockref05_Put.l0, if_pos (by clear e1 e2 e3; omega), e1, e2, e3, hx.out]
    clear e1 e2 e3
    simp only [List.length_nil] at hlen ha hF
    rw [if_pos (by omega), refNum_f _ _ (by omega) (by omega)]
    simp only [Option.bind_some]
    rw [if_pos (by omega), if_pos (by omega), if_pos (by rw [List.length_append]; omega)]
    obtain ⟨F, rfl⟩ : ∃ q, F = q + 1 := ⟨F - 1, by omega⟩
    rw [PPackGets.bedrockref05_Put.l0, if_neg (by omega)]
    simp [RU.runF, RU.rBytes]
  | cons y r ih =>
    intro x n i F acc hd hn hF ha
    obtain ⟨F, rfl⟩ : ∃ q, F = q + 1 := ⟨F - 1, by omega⟩
    have hlen := congrArg List.length hd
    rw [List.length_drop, List.length_cons] at hlen
    have hil : i < l.length := by omega
    have hx := Lib.hid (rd_drop l i x _ hd)
    have hdr : l.drop (i + 1) = y :: r := by
      rw [List.drop_eq_getElem_cons hil] at hd
      injection hd with h1 h2
    have hi9 : i < 10000 := by omega
    have hnl := num_le (n + 1)
    have e1 := wn1 i (by omega)
    have e2 := wn1 n (by omega)
    have e3 := un1 n (by omega)
    rw [PPackGets.bedrockref05_Put.l0, if_pos (by clear e1 e2 e3; omega), e1, e2, e3, hx.out]
    clear e1 e2 e3
    simp only [List.length_cons] at hlen ha hF
    have hy := Lib.hid (rd_drop l (i + 1) y _ hdr)
    rw [if_neg (by omega), if_pos (by omega), if_pos (by omega), if_pos (by omega), hy.out, RU.runF]
    by_cases h : y = x
    · rw [if_pos h, if_pos h, ih y (n + 1) (i + 1) F acc hdr (by omega) (by omega) (by omega), h]
    · rw [if_neg h, if_neg h, refNum_f _ _ (by omega) (by omega)]
      simp only [Option.bind_some]
      rw [if_pos (by omega), if_pos (by rw [List.length_append]; omega)]
      rw [show (0 : Int) = ((0 : Nat) : Int) from rfl, ih y 0 (i + 1) F _ hdr (by omega) (by omega) (by rw [List.length_append, List.length_append, List.length_singleton]; omega)]
      have e : RU.rBytes ((n + 1, x) :: RU.runF 1 y r) = num (n + 1) ++ (x :: RU.rBytes (RU.runF 1 y r)) := by
        have := RU.rBytes_cons (n + 1) x (RU.runF 1 y r) []
        simpa using this
      rw [e]
      simp
theorem refPut_f (l : List Int) (hl : l.length ≤ 10000) : PPackGets.bedrockref05_Put.f (l.length + 20) l = some (RU.row l) := by
  unfold PPackGets.bedrockref05_Put.f
  cases l with
  | nil => rfl
  | cons x r =>
    have := refPut_l0 (x :: r) hl r x 0 0 ((x :: r).length + 20) [] rfl (by omega) (by simp) (by simp only [List.length_cons, List.length_nil] at hl ⊢; omega)
    rw [show (0 : Int) = ((0 : Nat) : Int) from rfl, this, List.nil_append]
    rfl
theorem refPut_calls (A : Option Addr) (c : Nat) (l : List Int) (w : World) (hl : l.length ≤ 10000) (hr : ReadsInt w .u8 A l.length l) (hc : l.length ≤ c) :
    Calls Try.prog 27 #[.slice A l.length c] w fun e w' => ∃ v, e = .returned v ∧ OB w' w.heap.size v (RU.row l) ∧ Below w.heap.size w w' :=
  (PPackGets.bedrockref05_Put.calls _ A c l _ w (Kd.C_of_reads (d := (0 : Int)) (h1 := fun _ => rfl) hr) hc (refPut_f l hl)).mono fun e w' ⟨v, he, hR, hb⟩ => ⟨v, he, OB.of_R hR, hb⟩
end Go.Proofs.Ytkecppgodmbmlaa.PK

namespace Go.Proofs.Ytkecppgodmbmlaa.PK
open Go.RowKit Go.Proofs.YtkecppgodmbmlaaW.PrintWords Go.Proofs.YtkecppgodmbmlaaW.PrintLast Go.Proofs.YtkecppgodmbmlaaW.PrintMore
set_option linter.unusedVariables false
set_option linter.unusedSimpArgs false
def wasAt (T : List Pr) : Nat → Int
  | 0 => -1
  | j + 1 => (T.getD j P0).1
set_option maxHeartbeats 4000000 in
set_option maxRecDepth 100000 in
theorem rmay_calls (g : Nat) (C L T : List Pr) (A : Option Addr) (c : Nat) (w : World) (h : Chunk w g C L (.slice A T.length c)) (hT : Kd.C kT w A T.length T) (hC : U8 C) (hL : U8 L) (hlT : T.length ≤ 140737488355328) :
    Calls Try.prog 24 #[.pointer (some ⟨g, 0, none⟩)] w fun e w' => e = .returned (.bool (mayB C L T)) ∧ Below w.heap.size w w' := by
  have H := Lib.hid h
  have HT := Lib.hid hT
  have HC := Lib.hid hC
  have HL := Lib.hid hL
  clear h hT hC hL
  go_enter Try.func24, Try.ntmps24
  go_wp2
  go_loopw [3] (fun iv W => ∃ i : Nat, i ≤ 4096 ∧ iv = .int .i64 (i : Int) ∧ Aside0 (∀ j, j < i → okAt C L j = true) ∧ Aside0 (Below w.heap.size w W)) (fun iv _ => 4096 - (intOf iv).toNat)
  case atStart => exact ⟨0, by omega, rfl, ⟨fun j hj => by omega⟩, ⟨Below.refl _ _⟩⟩
  case round =>
    obtain ⟨i, hi, rfl, ⟨hok⟩, ⟨hb⟩⟩ := hrel
    have HB := Lib.hid hb
    have HOK := Lib.hid hok
    clear hb hok
    by_cases hlt : i < 4096
    · have hd := decide_eq_true (show (i : Int) < 4096 by omega)
      have p1 : (0 ≤ (i : Int)) = True := eq_true (by omega)
      have p2 : ((i : Int) < 4096) = True := eq_true (by omega)
      have HW := H.out.below HB.out H.out.lt
      obtain ⟨c0, c1⟩ := HW.atC i hlt
      have hu := HC.out.at_ i (by rw [H.out.lenC]; exact hlt)
      have HM := Lib.hid (fun W => refMay_calls (C.getD i P0) hu W)
      have HE := Lib.hid (show okAt C L i = (mayK (C.getD i P0) && (decide ((L.getD i P0).1 ≤ 15) && decide ((L.getD i P0).2 ≤ 15))) from rfl)
      obtain ⟨⟨ck, cl⟩, hci⟩ : ∃ q, C.getD i P0 = q := ⟨_, rfl⟩
      obtain ⟨⟨sk, la⟩, hli⟩ : ∃ q, L.getD i P0 = q := ⟨_, rfl⟩
      rw [hci] at c0 c1 HM HE
      rw [hli] at HE
      have Hli := Lib.hid hli
      clear HW hu hci hli
      go_wp2_with fail
      refine (HM.out _).mono ?_; rintro e w1 ⟨rfl, hb1⟩
      have HB1 := Lib.hid (below_step HB.out hb1)
      have HW1 := H.out.below HB1.out H.out.lt
      obtain ⟨l0, l1⟩ := HW1.atL i hlt
      rw [Hli.out] at l0 l1
      clear hb1 HW1 c0 c1
      cases hm : mayK (ck, cl) with
      | false =>
        have HF := Lib.hid (all_false hlt (HE.out.trans (by rw [hm]; rfl)))
        clear hm
        go_wp2
        go_ret
        exact ⟨by unfold mayB; rw [HF.out]; rfl, HB1.out⟩
      | true =>
        by_cases hs : sk ≤ 15
        · have hs1 := decide_eq_false (show ¬ (15 : Int) < sk by omega)
          by_cases hp : la ≤ 15
          · have hp1 := decide_eq_false (show ¬ (15 : Int) < la by omega)
            have HF := Lib.hid (HE.out.trans (show _ = true by rw [hm, decide_eq_true hs, decide_eq_true hp]; rfl))
            clear hm hs hp
            go_wp2
            go_roundw
            case rel => exact ⟨i + 1, by omega, by go_num, ⟨fun j hj => by
              rcases Nat.lt_or_ge j i with h | h
              · exact HOK.out j h
              · obtain rfl : j = i := by omega
                exact HF.out⟩, ⟨HB1.out⟩⟩
            case measure => simp [intOf]; omega
          · have hp1 := decide_eq_true (show (15 : Int) < la by omega)
            have HF := Lib.hid (all_false hlt (HE.out.trans (show _ = false by rw [hm, decide_eq_true hs, decide_eq_false hp]; rfl)))
            clear hm hs hp
            go_wp2
            go_ret
            exact ⟨by unfold mayB; rw [HF.out]; rfl, HB1.out⟩
        · have hs1 := decide_eq_true (show (15 : Int) < sk by omega)
          have HF := Lib.hid (all_false hlt (HE.out.trans (show _ = false by rw [hm, decide_eq_false hs]; rfl)))
          clear hm hs
          go_wp2
          go_ret
          exact ⟨by unfold mayB; rw [HF.out]; rfl, HB1.out⟩
    · have hd := decide_eq_false (show ¬ (i : Int) < 4096 by omega)
      have HF : Hid ((List.range 4096).all (okAt C L) = true) := Lib.hid (by
        rw [List.all_eq_true]
        intro j hj
        exact HOK.out j (by have := List.mem_range.1 hj; omega))
      clear hlt
      go_wp2
      go_loopw [4] (fun jv W => ∃ j : Nat, j ≤ T.length ∧ jv = .int .i64 (j : Int) ∧ Aside0 (tOk (-1) T = tOk (wasAt T j) (T.drop j) ∧ -1 ≤ wasAt T j ∧ (0 < j → 0 ≤ wasAt T j)) ∧ Aside0 (Below w.heap.size w W)) (fun jv _ => T.length - (intOf jv).toNat)
      case atStart => exact ⟨0, by omega, rfl, ⟨⟨rfl, (show (-1 : Int) ≤ -1 by decide), fun h => absurd h (by decide)⟩⟩, ⟨HB.out⟩⟩
      case round =>
        obtain ⟨j, hj, rfl, ⟨hto⟩, ⟨hb⟩⟩ := hrel
        have HBj := Lib.hid hb
        have HTO := Lib.hid hto
        have ht := (H.out.below HBj.out H.out.lt).atT
        clear hb hto
        by_cases hjl : j < T.length
        · have hd2 := decide_eq_true (show (j : Int) < (T.length : Int) by omega)
          obtain ⟨ad, rfl, t0, t1⟩ := tick_at (Kd.C_below HT.out HBj.out) j hjl
          have hdr : T.drop j = T.getD j P0 :: T.drop (j + 1) := by rw [List.drop_eq_getElem_cons hjl, List.getD_eq_getElem?_getD, List.getElem?_eq_getElem hjl]; rfl
          obtain ⟨⟨ta, td⟩, hti⟩ : ∃ q, T.getD j P0 = q := ⟨_, rfl⟩
          rw [hti] at t0 t1 hdr
          have HS := Lib.hid (show tOk (-1) T = (decide (wasAt T j < ta) && (decide (ta < 4096) && (decide (1 ≤ td) && (decide (td ≤ 2199023255552) && tOk ta (T.drop (j + 1)))))) by rw [HTO.out.1, hdr]; rfl)
          have q1 : (0 ≤ (j : Int)) = True := eq_true (by omega)
          have q2 : ((j : Int) < (T.length : Int)) = True := eq_true (by omega)
          have HW1 := Lib.hid (show wasAt T (j + 1) = ta from by show (T.getD j P0).1 = ta; rw [hti])
          clear hdr hti
          have hw1 := HTO.out.2.1
          by_cases e1 : ta < 0
          · have d1 := decide_eq_true e1
            have HS2 := Lib.hid (HS.out.trans (show _ = false by rw [decide_eq_false (show ¬ wasAt T j < ta by omega)]; rfl))
            go_wp2_with fail
            go_quiet (fail)
            go_wp2
            go_ret
            exact ⟨by unfold mayB; rw [HF.out, HS2.out]; rfl, by repeat (first | exact HBj.out | apply below_drew | apply pw_below_drewN | apply below_alloc)⟩
          · have d1 := decide_eq_false e1
            by_cases e2 : 4096 ≤ ta
            · have d2 := decide_eq_true e2
              have HS2 := Lib.hid (HS.out.trans (show _ = false by rw [decide_eq_false (show ¬ ta < 4096 by omega)]; simp))
              go_wp2_with fail
              go_quiet (fail)
              go_wp2
              go_ret
              exact ⟨by unfold mayB; rw [HF.out, HS2.out]; rfl, by repeat (first | exact HBj.out | apply below_drew | apply pw_below_drewN | apply below_alloc)⟩
            · have d2 := decide_eq_false e2
              by_cases e3 : td < 1
              · have d3 := decide_eq_true e3
                have HS2 := Lib.hid (HS.out.trans (show _ = false by rw [decide_eq_false (show ¬ 1 ≤ td by omega)]; simp))
                go_wp2_with fail
                go_quiet (fail)
                go_wp2
                go_ret
                exact ⟨by unfold mayB; rw [HF.out, HS2.out]; rfl, by repeat (first | exact HBj.out | apply below_drew | apply pw_below_drewN | apply below_alloc)⟩
              · have d3 := decide_eq_false e3
                by_cases e4 : 2199023255552 < td
                · have d4 := decide_eq_true e4
                  have HS2 := Lib.hid (HS.out.trans (show _ = false by rw [decide_eq_false (show ¬ td ≤ 2199023255552 by omega)]; simp))
                  go_wp2_with fail
                  go_quiet (fail)
                  go_wp2
                  go_ret
                  exact ⟨by unfold mayB; rw [HF.out, HS2.out]; rfl, by repeat (first | exact HBj.out | apply below_drew | apply pw_below_drewN | apply below_alloc)⟩
                · have d4 := decide_eq_false e4
                  have HR := Lib.hid (show (decide (ta < 4096) && (decide (1 ≤ td) && (decide (td ≤ 2199023255552) && tOk ta (T.drop (j + 1))))) = tOk ta (T.drop (j + 1)) by rw [decide_eq_true (show ta < 4096 by omega), decide_eq_true (show 1 ≤ td by omega), decide_eq_true (show td ≤ 2199023255552 by omega)]; rfl)
                  by_cases h0 : j = 0
                  · have HWJ := Lib.hid (show wasAt T j = -1 from by rw [h0]; rfl)
                    have z4 := decide_eq_false (show ¬ (0 : Int) < (j : Int) by omega)
                    have z5 : decide (0 < j) = false := decide_eq_false (by omega)
                    clear h0
                    have HS2 := Lib.hid (HS.out.trans (show _ = tOk ta _ by rw [HWJ.out, decide_eq_true (show (-1 : Int) < ta by omega), HR.out]; rfl))
                    go_wp2_with fail
                    go_quiet (fail)
                    go_wp2
                    go_roundw
                    case rel => exact ⟨j + 1, by omega, by go_num, ⟨⟨by rw [HW1.out]; exact HS2.out, by rw [HW1.out]; omega, fun _ => by rw [HW1.out]; omega⟩⟩, ⟨by repeat (first | exact HBj.out | apply below_drew | apply pw_below_drewN | apply below_alloc)⟩⟩
                    case measure => simp [intOf]; omega
                  · obtain ⟨jm, hjm⟩ : ∃ jm, j = jm + 1 := ⟨j - 1, by omega⟩
                    obtain ⟨ad', had, t2, _⟩ := tick_at (Kd.C_below HT.out HBj.out) jm (by omega)
                    obtain rfl : ad = ad' := Option.some.inj had
                    obtain ⟨tp, htp⟩ : ∃ tp, (T.getD jm P0).1 = tp := ⟨_, rfl⟩
                    rw [htp] at t2
                    have HWJ := Lib.hid (show wasAt T j = tp from by rw [hjm]; exact htp)
                    have z1 : (j : Int) - 1 = (jm : Int) := by omega
                    have z4 := decide_eq_true (show (0 : Int) < (j : Int) by omega)
                    have z5 : decide (0 < j) = true := decide_eq_true (by omega)
                    have q3 : (0 ≤ (jm : Int)) = True := eq_true (by omega)
                    have q4 : ((jm : Int) < (T.length : Int)) = True := eq_true (by omega)
                    have t3 := Lib.Below.cellOf (below_alloc (Below.refl _ wr) (.cells #[.int .i64 ta, .int .i64 td] 48)) t2 (Nat.le_refl _)
                    have t4 := Lib.Below.cellOf (below_alloc (Below.refl _ wr) (.cells #[.int .i64 ta, .int .i64 td] 48)) ht (Nat.le_refl _)
                    clear htp had h0 hjm
                    by_cases e5 : ta ≤ tp
                    · have d5 := decide_eq_true e5
                      have HS2 := Lib.hid (HS.out.trans (show _ = false by rw [HWJ.out, decide_eq_false (show ¬ tp < ta by omega)]; rfl))
                      go_wp2_with fail
                      go_quiet (fail)
                      go_wp2
                      go_ret
                      exact ⟨by unfold mayB; rw [HF.out, HS2.out]; rfl, by repeat (first | exact HBj.out | apply below_drew | apply pw_below_drewN | apply below_alloc)⟩
                    · have d5 := decide_eq_false e5
                      have HS2 := Lib.hid (HS.out.trans (show _ = tOk ta _ by rw [HWJ.out, decide_eq_true (show tp < ta by omega), HR.out]; rfl))
                      go_wp2_with fail
                      go_quiet (fail)
                      go_wp2
                      go_roundw
                      case rel => exact ⟨j + 1, by omega, by go_num, ⟨⟨by rw [HW1.out]; exact HS2.out, by rw [HW1.out]; omega, fun _ => by rw [HW1.out]; omega⟩⟩, ⟨by repeat (first | exact HBj.out | apply below_drew | apply pw_below_drewN | apply below_alloc)⟩⟩
                      case measure => simp [intOf]; omega
        · have hd2 := decide_eq_false (show ¬ (j : Int) < (T.length : Int) by omega)
          have HS2 := Lib.hid (show tOk (-1) T = true by rw [HTO.out.1, List.drop_of_length_le (by omega)]; rfl)
          go_wp2
          go_ret
          exact ⟨by unfold mayB; rw [HF.out, HS2.out]; rfl, HBj.out⟩
end Go.Proofs.Ytkecppgodmbmlaa.PK

namespace Go.Proofs.Ytkecppgodmbmlaa.PK
open Go.RowKit Go.Proofs.YtkecppgodmbmlaaW.PrintWords Go.Proofs.YtkecppgodmbmlaaW.PrintLast Go.Proofs.YtkecppgodmbmlaaW.PrintMore Go.Proofs.Ytkecppgodmbmlaa.CD Go.Proofs.Ytkecppgodmbmlaa.BR
set_option linter.unusedVariables false
set_option linter.unusedSimpArgs false
theorem infoCell : (Try.prog.info? 34).map (fun i => (i.zero, i.size, i.bytes)) = some (some (.agg #[.int .u8 0, .int .u8 0]), 2, 2) := by kernel_rfl
theorem stepP_pal (s : List Pr × List Int) (p : Pr) : (stepP s p).1 = if pl s.1 p < 0 then s.1 ++ [p] else s.1 := by
  unfold stepP pl
  cases lk 0 s.1 p with
  | none => rfl
  | some j =>
    simp only
    rw [if_neg (by omega)]
theorem pal_le (l : List Pr) : (codes l).1.length ≤ l.length := by
  have h : ∀ (l : List Pr) (s : List Pr × List Int), (l.foldl stepP s).1.length ≤ s.1.length + l.length := by
    intro l
    induction l with
    | nil => intro s; simp
    | cons p l ih =>
      intro s
      rw [List.foldl_cons]
      have := ih (stepP s p)
      have h2 : (stepP s p).1.length ≤ s.1.length + 1 := by
        rw [stepP_pal]
        split
        · rw [List.length_append]; simp
        · omega
      rw [List.length_cons]
      omega
  have := h l ([], [])
  simpa [codes] using this
theorem codes_next (C : List Pr) (i : Nat) (h : i < C.length) : codes (C.take (i + 1)) = stepP (codes (C.take i)) (C.getD i P0) := by
  rw [List.take_add_one, List.getD_eq_getElem?_getD, List.getElem?_eq_getElem h]
  exact codes_snoc _ _
abbrev PalR (W : World) (base : Nat) (v : Value) (P : List Pr) : Prop := Kd.R PPackGets.k34 34 W base (fun _ => True) v (P.map toS)
set_option maxHeartbeats 2000000 in
set_option maxRecDepth 100000 in
theorem rpal_calls (g : Nat) (C L : List Pr) (v : Value) (w : World) (h : Chunk w g C L v) :
    Calls Try.prog 25 #[.pointer (some ⟨g, 0, none⟩)] w fun e w' => ∃ v, e = .returned v ∧ PalR w' w.heap.size v (codes C).1 ∧ Below w.heap.size w w' := by
  have H := Lib.hid h
  clear h
  go_enter Try.func25, Try.ntmps25
  go_wp2
  go_loopw [3, 4] (fun lv iv W => ∃ i : Nat, i ≤ 4096 ∧ iv = .int .i64 (i : Int) ∧ Aside0 (PalR W w.heap.size lv (codes (C.take i)).1) ∧ Aside0 (Below w.heap.size w W)) (fun _ iv _ => 4096 - (intOf iv).toNat)
  case atStart => exact ⟨0, by omega, rfl, ⟨Kd.R_nil _ _ _ _ _⟩, ⟨Below.refl _ _⟩⟩
  case round =>
    obtain ⟨i, hi, rfl, ⟨hp⟩, ⟨hb⟩⟩ := hrel
    obtain ⟨P, hPP⟩ : ∃ P, (codes (C.take i)).1 = P := ⟨_, rfl⟩
    rw [hPP] at hp
    have hPl : P.length ≤ i := by rw [← hPP]; have := pal_le (C.take i); rw [List.length_take] at this; omega
    obtain ⟨A3, c3, rfl, hc3, hr3⟩ := Kd.R_reads hp
    rw [List.length_map] at hc3 hr3 ⊢
    have HB := Lib.hid hb
    have HR := Lib.hid (show PalR wr w.heap.size (.slice A3 P.length c3) P from by
      unfold PalR at hp ⊢
      rw [List.length_map] at hp
      exact hp)
    have HP := Lib.hid hPP
    by_cases hlt : i < 4096
    · have hd := decide_eq_true (show (i : Int) < 4096 by omega)
      have p1 : (0 ≤ (i : Int)) = True := eq_true (by omega)
      have p2 : ((i : Int) < 4096) = True := eq_true (by omega)
      have HW := H.out.below HB.out H.out.lt
      obtain ⟨c0, c1⟩ := HW.atC i hlt
      obtain ⟨q, hq⟩ : ∃ q, C.getD i P0 = q := ⟨_, rfl⟩
      rw [hq] at c0 c1
      have hpl := Lib.hid (place_calls P q A3 c3 wr (by omega) hr3 hc3)
      have HN := Lib.hid (show (codes (C.take (i + 1))).1 = if pl P q < 0 then P ++ [q] else P from by rw [codes_next C i (by rw [H.out.lenC]; exact hlt), stepP_pal, HP.out, hq])
      have HQ := Lib.hid hq
      obtain ⟨z, hz⟩ : ∃ z, pl P q = z := ⟨_, rfl⟩
      rw [hz] at hpl HN
      obtain ⟨ck, cl⟩ := q
      simp only at c0 c1
      clear hp hb hPP HW hq hz hr3
      go_wp2_with fail
      refine hpl.out.mono ?_; rintro e w1 ⟨rfl, hb1⟩
      have HB1 := Lib.hid (below_step HB.out hb1)
      have HR1 := Lib.hid (Kd.R_below HR.out hb1)
      have HW1 := H.out.below HB1.out H.out.lt
      obtain ⟨c2, c3'⟩ := HW1.atC i hlt
      clear hb1 hpl c0 c1
      by_cases hz : z < 0
      · have d1 := decide_eq_true hz
        have HN2 := Lib.hid (HN.out.trans (if_pos hz))
        have H2 := Lib.hid (⟨c2, c3'⟩ : _ ∧ _)
        have hq2 : w1.cell? ⟨g, i * 2, none⟩ = some (.int .u8 ck) := by rw [HQ.out] at c2; exact c2
        have hq3 : w1.cell? ⟨g, i * 2 + 1, none⟩ = some (.int .u8 cl) := by rw [HQ.out] at c3'; exact c3'
        clear hz c2 c3' H2
        go_wp2_with (at_builtin; refine Kd.R_append PPackGets.k34 (w0 := w) w.heap.size rfl (.tmp 18) (.tmp 25) 66 34 (.agg #[.int .u8 0, .int .u8 0]) 2 rfl Try.underlying66 infoCell (by rfl) (by decide) (by decide) (.slice A3 P.length c3) (P.map toS) (toS (ck, cl)) [.int .u8 ck, .int .u8 cl] (fun _ => True) (fun _ => False) rfl rfl (PPackGets.k34_mkM _ _ _ _) (fun _ h => h.elim) (fun _ _ => trivial) HR1.out HB1.out HB1.out.size (by rw [List.length_map]; omega) ?_; intro v6 w6 hr6 hb6 hg6 hat6; have HR6 := Lib.hid hr6; have HB6 := Lib.hid hb6; clear hr6 hb6 hg6 hat6)
        go_roundw
        case rel => exact ⟨i + 1, by omega, by go_num, ⟨by unfold PalR; rw [HN2.out, List.map_append]; exact HR6.out⟩, ⟨HB6.out⟩⟩
        case measure => simp [intOf]; omega
      · have d1 := decide_eq_false hz
        have HN2 := Lib.hid (HN.out.trans (if_neg hz))
        clear hz c2 c3'
        go_wp2
        go_roundw
        case rel => exact ⟨i + 1, by omega, by go_num, ⟨by rw [HN2.out]; exact HR1.out⟩, ⟨HB1.out⟩⟩
        case measure => simp [intOf]; omega
    · have hd := decide_eq_false (show ¬ (i : Int) < 4096 by omega)
      have he : C.take i = C := List.take_of_length_le (by rw [H.out.lenC]; omega)
      have HF := Lib.hid (show (codes C).1 = P from by rw [← he]; exact hPP)
      clear hp hb hPP hr3 he
      go_wp2
      go_ret
      exact ⟨.slice A3 P.length c3, rfl, by rw [HF.out]; exact HR.out, HB.out⟩
end Go.Proofs.Ytkecppgodmbmlaa.PK

namespace Go.Proofs.Ytkecppgodmbmlaa.PK
open Go.RowKit Go.Proofs.YtkecppgodmbmlaaW.PrintWords Go.Proofs.YtkecppgodmbmlaaW.PrintLast Go.Proofs.YtkecppgodmbmlaaW.PrintMore Go.Proofs.Ytkecppgodmbmlaa.CD Go.Proofs.Ytkecppgodmbmlaa.BR
set_option linter.unusedVariables false
set_option linter.unusedSimpArgs false
theorem lk_at : ∀ (P : List Pr) (i : Nat) (j : Nat), P.Nodup → j < P.length → lk i P (P.getD j P0) = some (i + j)
  | [], i, j, _, h => by simp at h
  | q :: P, i, 0, _, _ => by rw [List.getD_cons_zero, lk, if_pos rfl]; rfl
  | q :: P, i, j + 1, hn, h => by
    rw [List.nodup_cons] at hn
    have hj : j < P.length := by simpa using h
    rw [List.getD_cons_succ, lk, if_neg, lk_at P (i + 1) j hn.2 hj]
    · congr 1; omega
    · intro e
      apply hn.1
      rw [← e, List.getD_eq_getElem?_getD, List.getElem?_eq_getElem hj]
      exact List.getElem_mem hj
theorem codes_pl (C : List Pr) : (codes C).2 = C.map (pl (codes C).1) := by
  obtain ⟨h1, h2⟩ := codes_mean C
  conv => rhs; arg 2; rw [← h1]
  rw [List.map_map]
  conv => lhs; rw [← List.map_id (codes C).2]
  refine List.map_congr_left fun k hk => ?_
  obtain ⟨a, b⟩ := h2 k hk
  show k = pl (codes C).1 (mean (codes C).1 k)
  unfold pl mean
  rw [lk_at (codes C).1 0 k.toNat (codes_nodup C).1 (by omega)]
  simp only
  omega
theorem pl_lt (C : List Pr) (i : Nat) (h : i < C.length) : 0 ≤ pl (codes C).1 (C.getD i P0) ∧ pl (codes C).1 (C.getD i P0) < ((codes C).1.length : Int) := by
  have hm : pl (codes C).1 (C.getD i P0) ∈ (codes C).2 := by
    rw [codes_pl C, List.getD_eq_getElem?_getD, List.getElem?_eq_getElem h]
    exact List.mem_map.2 ⟨_, List.getElem_mem h, rfl⟩
  exact (codes_mean C).2 _ hm
theorem map_next {α : Type} (f : Pr → α) (C : List Pr) (i : Nat) (h : i < C.length) : (C.take (i + 1)).map f = (C.take i).map f ++ [f (C.getD i P0)] := by
  rw [List.take_add_one, List.getD_eq_getElem?_getD, List.getElem?_eq_getElem h, List.map_append]
  rfl
def Dj (a b : Value) : Prop := ∀ k, a.ownBlock = some k → b.ownBlock ≠ some k
theorem Dj.symm {a b : Value} (h : Dj a b) : Dj b a := fun k hk ha => h k ha hk
theorem OB.grownO {w W : World} {base : Nat} {v : Value} {l : List Int} {row : Option Nat} (h : OB w base v l) (hg : w.grownBy W row) (hf : ∀ k, v.ownBlock = some k → row ≠ some k) : OB W base v l := by
  refine ⟨h.1, ?_⟩
  rcases h.2 with h' | ⟨b, cap, cur, hv, hb, hh, hr⟩
  · exact .inl h'
  · refine .inr ⟨b, cap, cur, hv, hb, ?_, hr⟩
    have hlt := World.ownsRow.lt h b (by rw [hv]; rfl)
    rw [hg.block b hlt.2 (fun e => hf b (by rw [hv]; rfl) e.symm)]
    exact hh
theorem Dj.fresh {W : World} {base : Nat} {u v v1 : Value} {l : List Int} (hu : OB W base u l) (hd : Dj u v) (hat : v1.ownBlock = v.ownBlock ∨ ∃ b, v1.ownBlock = some b ∧ W.heap.size ≤ b) : Dj u v1 := fun k hk => by
  rcases hat with e | ⟨b, e, hb⟩
  · rw [e]; exact hd k hk
  · rw [e]
    have := (World.ownsRow.lt hu k hk).2
    intro h
    injection h with h
    omega
set_option maxHeartbeats 4000000 in
set_option maxRecDepth 100000 in
theorem rput_no (g : Nat) (C L T : List Pr) (A : Option Addr) (c : Nat) (w : World) (h : Chunk w g C L (.slice A T.length c)) (hT : Kd.C kT w A T.length T) (hC : U8 C) (hL : U8 L) (hlT : T.length ≤ 140737488355328) (hm : mayB C L T = false) :
    Calls Try.prog 13 #[.pointer (some ⟨g, 0, none⟩)] w fun e w' => e = .returned (.tuple #[.slice none 0 0, .int .i64 2]) ∧ Below w.heap.size w w' := by
  have HM := Lib.hid (rmay_calls g C L T A c w h hT hC hL hlT)
  rw [hm] at HM
  clear h hT hC hL hm
  go_enter Try.func13, Try.ntmps13
  go_wp2_with fail
  refine HM.out.mono ?_; rintro e w1 ⟨rfl, hb1⟩
  have HB1 := Lib.hid hb1
  clear hb1
  go_wp2
  go_ret2
  exact ⟨rfl, HB1.out⟩
theorem palette_at {W : World} {base : Nat} {A : Option Addr} {c : Nat} {P : List Pr} (h : PalR W base (.slice A P.length c) P) (i : Nat) (hi : i < P.length) : ∃ ad, A = some ad ∧ W.cell? (ad.add (i * 2)) = some (.int .u8 (P.getD i P0).1) ∧ W.cell? ⟨(ad.add (i * 2)).block, (ad.add (i * 2)).off + 1, none⟩ = some (.int .u8 (P.getD i P0).2) := by
  have h1 := (Kd.R_reads' h).2.2
  rw [List.length_map] at h1
  obtain ⟨ad, e, h2, h3⟩ := PPackGets.at_T34 h1 (i : Int) (by omega) (by omega)
  have e2 : PPackGets.rd_T34 (P.map toS) (i : Int) = toS (P.getD i P0) := by
    unfold PPackGets.rd_T34
    rw [Int.toNat_natCast, List.getD_eq_getElem?_getD, List.getElem?_map, List.getElem?_eq_getElem hi, List.getD_eq_getElem?_getD, List.getElem?_eq_getElem hi]
    rfl
  rw [e2, Int.toNat_natCast] at h2 h3
  exact ⟨ad, e, h2, h3⟩
structure L1 (w W : World) (g : Nat) (C L : List Pr) (tv lv bv : Value) (P : List Pr) (lb : List Int) : Prop where
  below : Below w.heap.size w W
  ch : Chunk W g C L tv
  pal : PalR W w.heap.size lv P
  ob : OB W w.heap.size bv lb
  dj : Dj lv bv
theorem L1.under {w W W' : World} {g : Nat} {C L : List Pr} {tv lv bv : Value} {P : List Pr} {lb : List Int} (h : L1 w W g C L tv lv bv P lb) (hb : Below W.heap.size W W') : L1 w W' g C L tv lv bv P lb :=
  ⟨below_step h.below hb, h.ch.below hb h.ch.lt, Kd.R_below h.pal hb, OB.below h.ob hb, h.dj⟩
theorem ob_ne {W : World} {base : Nat} {v : Value} {l : List Int} (h : OB W base v l) {g : Nat} (hg : g < base) : some g ≠ v.ownBlock := fun e => by
  have := (World.ownsRow.lt h g e.symm).1
  omega
theorem L1.step {w W w9 : World} {g : Nat} {C L : List Pr} {tv lv bv v9 : Value} {P : List Pr} {lb ys : List Int} (h : L1 w W g C L tv lv bv P lb) (hgw : g < w.heap.size) (hr : Kd.R (Kd.int .u8) 5 w9 w.heap.size (fun _ => True) v9 (lb ++ ys)) (hb : Below w.heap.size w w9) (hg : W.grownBy w9 bv.ownBlock) (hat : v9.ownBlock = bv.ownBlock ∨ ∃ b, v9.ownBlock = some b ∧ W.heap.size ≤ b) : L1 w w9 g C L tv lv v9 P (lb ++ ys) :=
  ⟨hb, h.ch.grown hg (ob_ne h.ob hgw), Kd.R_grown2 h.pal rfl hg (fun k hk e => h.dj k e.symm hk), OB.of_R hr, fun k hk => by
    rcases hat with e | ⟨b, e, hb⟩
    · rw [e]; exact h.dj k hk
    · rw [e]
      have := Kd.R_lt h.pal k hk
      intro h'
      injection h' with h'
      omega⟩
theorem L1.apart {w W w9 : World} {g : Nat} {C L : List Pr} {tv lv bv a : Value} {P : List Pr} {lb la : List Int} (h : L1 w W g C L tv lv bv P lb) (hgw : g < w.heap.size) (ha : OB W w.heap.size a la) (h1 : Dj lv a) (h2 : Dj bv a) (hb : Below w.heap.size w w9) (hg : W.grownBy w9 a.ownBlock) : L1 w w9 g C L tv lv bv P lb :=
  ⟨hb, h.ch.grown hg (ob_ne ha hgw), Kd.R_grown2 h.pal rfl hg (fun k hk e => h1 k e.symm hk), OB.grownO h.ob hg h2, h.dj⟩
theorem Dj.freshR {W : World} {base : Nat} {P : List Pr} {u v v1 : Value} (hu : PalR W base u P) (hd : Dj u v) (hat : v1.ownBlock = v.ownBlock ∨ ∃ b, v1.ownBlock = some b ∧ W.heap.size ≤ b) : Dj u v1 := fun k hk => by
  rcases hat with e | ⟨b, e, hb⟩
  · rw [e]; exact hd k hk
  · rw [e]
    have := Kd.R_lt hu k hk
    intro h
    injection h with h
    omega
structure L2 (w W : World) (g : Nat) (C L : List Pr) (tv lv bv : Value) (P : List Pr) (lb : List Int) (ov uv : Value) (lo lu : List Int) : Prop where
  l1 : L1 w W g C L tv lv bv P lb
  one : OB W w.heap.size ov lo
  two : OB W w.heap.size uv lu
  d1 : Dj lv ov
  d2 : Dj lv uv
  d3 : Dj bv ov
  d4 : Dj bv uv
  d5 : Dj ov uv
section
variable {w W w9 : World} {g : Nat} {C L : List Pr} {tv lv bv : Value} {P : List Pr} {lb : List Int} {ov uv v9 : Value} {lo lu ys : List Int}
theorem L2.under (h : L2 w W g C L tv lv bv P lb ov uv lo lu) (hb : Below W.heap.size W w9) : L2 w w9 g C L tv lv bv P lb ov uv lo lu :=
  ⟨h.l1.under hb, OB.below h.one hb, OB.below h.two hb, h.d1, h.d2, h.d3, h.d4, h.d5⟩
theorem L2.step1 (h : L2 w W g C L tv lv bv P lb ov uv lo lu) (hgw : g < w.heap.size) (hr : OB w9 w.heap.size v9 (lo ++ ys)) (hb : Below w.heap.size w w9) (hg : W.grownBy w9 ov.ownBlock) (hat : v9.ownBlock = ov.ownBlock ∨ ∃ b, v9.ownBlock = some b ∧ W.heap.size ≤ b) : L2 w w9 g C L tv lv bv P lb v9 uv (lo ++ ys) lu :=
  ⟨h.l1.apart hgw h.one h.d1 h.d3 hb hg, hr, OB.grownO h.two hg h.d5.symm, Dj.freshR h.l1.pal h.d1 hat, h.d2, Dj.fresh h.l1.ob h.d3 hat, h.d4, (Dj.fresh h.two h.d5.symm hat).symm⟩
theorem L2.step2 (h : L2 w W g C L tv lv bv P lb ov uv lo lu) (hgw : g < w.heap.size) (hr : OB w9 w.heap.size v9 (lu ++ ys)) (hb : Below w.heap.size w w9) (hg : W.grownBy w9 uv.ownBlock) (hat : v9.ownBlock = uv.ownBlock ∨ ∃ b, v9.ownBlock = some b ∧ W.heap.size ≤ b) : L2 w w9 g C L tv lv bv P lb ov v9 lo (lu ++ ys) :=
  ⟨h.l1.apart hgw h.two h.d2 h.d4 hb hg, OB.grownO h.one hg h.d5, hr, h.d1, Dj.freshR h.l1.pal h.d2 hat, h.d3, Dj.fresh h.l1.ob h.d4 hat, Dj.fresh h.one h.d5 hat⟩
end
theorem getD_mem (l : List Pr) (i : Nat) (h : i < l.length) : l.getD i P0 ∈ l := by
  rw [List.getD_eq_getElem?_getD, List.getElem?_eq_getElem h]
  exact List.getElem_mem h
def lastT (was : Int) : List Pr → Int
  | [] => was
  | t :: r => lastT t.1 r
theorem tBytes_snoc : ∀ (l : List Pr) (was : Int) (t : Pr), tBytes was (l ++ [t]) = tBytes was l ++ (num (t.1 - lastT was l - 1).toNat ++ num t.2.toNat)
  | [], was, t => by simp [tBytes, lastT]
  | x :: l, was, t => by
    rw [List.cons_append, tBytes, tBytes_snoc l x.1 t, tBytes, lastT]
    simp only [List.append_assoc]
theorem lastT_snoc : ∀ (l : List Pr) (was : Int) (t : Pr), lastT was (l ++ [t]) = t.1
  | [], _, _ => rfl
  | x :: l, was, t => lastT_snoc l x.1 t
theorem take_nextT (T : List Pr) (j : Nat) (h : j < T.length) : T.take (j + 1) = T.take j ++ [T.getD j P0] := by
  rw [List.take_add_one, List.getD_eq_getElem?_getD, List.getElem?_eq_getElem h]
  rfl
theorem lastT_take (T : List Pr) : ∀ (j : Nat), j ≤ T.length → lastT (-1) (T.take j) = wasAt T j
  | 0, _ => rfl
  | j + 1, h => by rw [take_nextT T j (by omega), lastT_snoc]; rfl
theorem tBytes_next (T : List Pr) (j : Nat) (h : j < T.length) : tBytes (-1) (T.take (j + 1)) = tBytes (-1) (T.take j) ++ (num ((T.getD j P0).1 - wasAt T j - 1).toNat ++ num (T.getD j P0).2.toNat) := by
  rw [take_nextT T j h, tBytes_snoc, lastT_take T j (by omega)]
theorem tOk_all : ∀ (T : List Pr) (was : Int), -1 ≤ was → tOk was T = true → ∀ j, j < T.length → (-1 ≤ lastT was (T.take j) ∧ lastT was (T.take j) < (T.getD j P0).1) ∧ (T.getD j P0).1 < 4096 ∧ 1 ≤ (T.getD j P0).2 ∧ (T.getD j P0).2 ≤ 2199023255552
  | t :: r, was, hw, h, 0, _ => by
    obtain ⟨⟨a, b⟩, ⟨c, d⟩, hr⟩ := tOk_cons h
    exact ⟨⟨hw, a⟩, b, c, d⟩
  | t :: r, was, hw, h, j + 1, hj => by
    obtain ⟨⟨a, b⟩, ⟨c, d⟩, hr⟩ := tOk_cons h
    exact tOk_all r t.1 (by omega) hr j (by simpa using hj)
theorem tOk_at (T : List Pr) (h : tOk (-1) T = true) (j : Nat) (hj : j < T.length) : (-1 ≤ wasAt T j ∧ wasAt T j < (T.getD j P0).1) ∧ (T.getD j P0).1 < 4096 ∧ 1 ≤ (T.getD j P0).2 ∧ (T.getD j P0).2 ≤ 2199023255552 := by
  have := tOk_all T (-1) (by omega) h j hj
  rw [lastT_take T j (by omega)] at this
  exact this
theorem tOk_take : ∀ (T : List Pr) (was : Int), tOk was T = true → ∀ j, tOk was (T.take j) = true
  | [], _, _, _ => by simp [tOk]
  | t :: r, was, h, 0 => rfl
  | t :: r, was, h, j + 1 => by
    rw [List.take_succ_cons]
    rw [tOk, Bool.and_eq_true, Bool.and_eq_true, Bool.and_eq_true, Bool.and_eq_true] at h ⊢
    exact ⟨h.1, h.2.1, h.2.2.1, h.2.2.2.1, tOk_take r t.1 h.2.2.2.2 j⟩
theorem dj_nil (v : Value) : Dj v (.slice none 0 0) := fun k _ h => by simp [Value.ownBlock] at h
set_option maxHeartbeats 4000000 in
set_option maxRecDepth 100000 in
theorem rput_calls (g : Nat) (C L T : List Pr) (A : Option Addr) (c : Nat) (w : World) (h : Chunk w g C L (.slice A T.length c)) (hT : Kd.C kT w A T.length T) (hC : U8 C) (hL : U8 L) (hlT : T.length ≤ 1000000) (hm : mayB C L T = true) :
    Calls Try.prog 13 #[.pointer (some ⟨g, 0, none⟩)] w fun e w' => ∃ v, e = .returned (.tuple #[v, .int .i64 0]) ∧ OB w' w.heap.size v (packB C L T) ∧ Below w.heap.size w w' := by
  have HM := Lib.hid (rmay_calls g C L T A c w h hT hC hL (by omega))
  rw [hm] at HM
  have H := Lib.hid h
  have HT := Lib.hid hT
  have HPK := Lib.hid (⟨h.lenC, h.lenL, hC, hL, hm, rfl⟩ : Pk (packB C L T) C L T)
  clear h hT hC hL hm
  go_enter Try.func13, Try.ntmps13
  go_wp2_with fail
  refine HM.out.mono ?_; rintro e w1 ⟨rfl, hb1⟩
  have HB1 := Lib.hid hb1
  have HC1 := Lib.hid (H.out.below hb1 H.out.lt)
  have hpal := Lib.hid (rpal_calls g C L _ w1 HC1.out)
  clear hb1
  go_wp2_with fail
  refine hpal.out.mono ?_; rintro e w2 ⟨lv, rfl, hpr, hb2⟩
  obtain ⟨P, hPP⟩ : ∃ P, (codes C).1 = P := ⟨_, rfl⟩
  have hPl : P.length ≤ 240 := by rw [← hPP]; exact HPK.out.pal
  rw [hPP] at hpr
  have HPP := Lib.hid hPP
  obtain ⟨A3, c3, rfl, hc3, hr3⟩ := Kd.R_reads hpr
  rw [List.length_map] at hc3 hr3 ⊢
  have HPR := Lib.hid (show PalR w2 w.heap.size (.slice A3 P.length c3) P from by
    unfold PalR at hpr ⊢
    rw [List.length_map] at hpr
    exact Kd.R_lower hpr HB1.out.size)
  have HB2 := Lib.hid (below_step HB1.out hb2)
  have HC2 := Lib.hid (HC1.out.below hb2 HC1.out.lt)
  clear hpal hpr hb2 hr3 hc3 HC1 hPP
  have k1 : IntKind.u8.wrap (P.length : Int) = (P.length : Int) := u8_wrap _ (by omega) (by omega)
  have k2 : (P.length : Int) % 256 = (P.length : Int) := by omega
  have hA3 : ∀ k, (Value.slice A3 P.length c3).ownBlock = some k → k < w2.heap.size := Kd.R_lt HPR.out
  have HL0 := Lib.hid (⟨below_alloc HB2.out _, HC2.out.below (below_alloc (Below.refl _ _) _) HC2.out.lt, Kd.R_below HPR.out (below_alloc (Below.refl _ _) _), own_less (own_lit w2 w2.heap.size 5 .u8 [(P.length : Int)] (Nat.le_refl _) (by simp)) HB2.out.size, fun k hk hb => by
    have := hA3 k hk
    injection hb with hb
    simp only at hb
    omega⟩ : L1 w (w2.alloc (.cells #[.int .u8 (P.length : Int)] 5)) g C L (.slice A T.length c) (.slice A3 P.length c3) (.slice (some ⟨w2.heap.size, 0, none⟩) 1 1) P [(P.length : Int)])
  clear hA3
  go_wp2_with fail
  clear k1 k2
  go_loopw [5, 6] (fun bv iv W => ∃ i : Nat, i ≤ P.length ∧ iv = .int .i64 (i : Int) ∧ Aside0 (L1 w W g C L (.slice A T.length c) (.slice A3 P.length c3) bv P ([(P.length : Int)] ++ pBytes (P.take i)))) (fun _ iv _ => P.length - (intOf iv).toNat)
  case atStart => exact ⟨0, by omega, rfl, ⟨HL0.out⟩⟩
  case round =>
    obtain ⟨i, hi, rfl, ⟨hl1⟩⟩ := hrel
    have HL := Lib.hid hl1
    clear hl1
    by_cases hlt : i < P.length
    · have hd := decide_eq_true (show (i : Int) < (P.length : Int) by omega)
      have hr3 := Kd.R_reads' HL.out.pal
      obtain ⟨ad3, rfl, s0, s1⟩ := palette_at HL.out.pal i hlt
      obtain ⟨⟨pk, pv⟩, hpi⟩ : ∃ q, P.getD i P0 = q := ⟨_, rfl⟩
      rw [hpi] at s0 s1
      have HPQ := Lib.hid hpi
      have HPI := Lib.hid (show pBytes (P.take (i + 1)) = pBytes (P.take i) ++ [pk, pv] from by
        rw [List.take_add_one, List.getElem?_eq_getElem hlt]
        rw [List.getD_eq_getElem?_getD, List.getElem?_eq_getElem hlt] at hpi
        rw [show P[i] = (pk, pv) from hpi]
        exact pBytes_snoc _ _)
      have p1 : (0 ≤ (i : Int)) = True := eq_true (by omega)
      have p2 : ((i : Int) < (P.length : Int)) = True := eq_true (by omega)
      obtain ⟨lb, hlb⟩ : ∃ lb, [(P.length : Int)] ++ pBytes (P.take i) = lb := ⟨_, rfl⟩
      rw [hlb] at HL
      have hlbl : lb.length ≤ 1000 := by rw [← hlb, List.length_append, pBytes_len, List.length_take]; simp; omega
      have HLB := Lib.hid hlb
      obtain ⟨A5, c5, rfl, hc5, _⟩ := OB.slice HL.out.ob
      clear hr3 hpi hlb hc5
      go_wp2_with fail
      refine start_ (n := 14) (S := fun w' => w'.cell? (ad3.add (i * 2)) = some (.int .u8 pk) ∧ w'.cell? ⟨(ad3.add (i * 2)).block, (ad3.add (i * 2)).off + 1, none⟩ = some (.int .u8 pv)) (ds := []) #[false, false, false, false, false, false, false, false, false, false, false, false, false, false] (by kernel_rfl) rfl rfl ⟨s0, s1⟩ (fun hHeld => ?_)
      refine pure_ (i := 0) (N := some 30) (v := ?_) (a' := ?_) #[true, false, false, false, false, false, false, false, false, false, false, false, false, false] rfl rfl (by kernel_rfl) (fun _ _ _ h => h) (Or.inl ⟨by rfl, ?_⟩) ?_ ?_
      rotate_left
      · intro w'
        go_simp
        with_reducible rfl
      rotate_left
      · simp only [Act.put, List.setIfInBounds_toArray, List.set_cons_zero, List.set_cons_succ, i64_w, i32_w]
        rfl
      refine pure_ (i := 1) (N := some 31) (v := ?_) (a' := ?_) #[true, true, false, false, false, false, false, false, false, false, false, false, false, false] rfl rfl (by kernel_rfl) (fun _ _ _ h => h) (Or.inl ⟨by rfl, ?_⟩) ?_ ?_
      rotate_left
      · intro w'
        go_simp
        with_reducible rfl
      rotate_left
      · simp only [Act.put, List.setIfInBounds_toArray, List.set_cons_zero, List.set_cons_succ, i64_w, i32_w]
        rfl
      refine pure_ (i := 2) (N := some 32) (v := ?_) (a' := ?_) #[true, true, true, false, false, false, false, false, false, false, false, false, false, false] rfl rfl (by kernel_rfl) (fun _ _ _ h => h) (Or.inl ⟨by rfl, ?_⟩) ?_ ?_
      rotate_left
      · intro w'
        go_simp
        with_reducible rfl
      rotate_left
      · simp only [Act.put, List.setIfInBounds_toArray, List.set_cons_zero, List.set_cons_succ, i64_w, i32_w]
        rfl
      refine pure_ (i := 3) (N := some 33) (v := ?_) (a' := ?_) #[true, true, true, true, false, false, false, false, false, false, false, false, false, false] rfl rfl (by kernel_rfl) (fun _ _ _ h => h) (Or.inl ⟨by rfl, ?_⟩) ?_ ?_
      rotate_left
      · intro w'
        go_simp
        with_reducible rfl
      rotate_left
      · simp only [Act.put, List.setIfInBounds_toArray, List.set_cons_zero, List.set_cons_succ, i64_w, i32_w]
        rfl
      refine pure_ (i := 4) (N := some 34) (v := ?_) (a' := ?_) #[true, true, true, true, true, false, false, false, false, false, false, false, false, false] rfl rfl (by kernel_rfl) (fun _ _ _ h => h) (Or.inl ⟨by rfl, ?_⟩) ?_ ?_
      rotate_left
      · intro w'
        go_simp
        with_reducible rfl
      rotate_left
      · simp only [Act.put, List.setIfInBounds_toArray, List.set_cons_zero, List.set_cons_succ, i64_w, i32_w]
        rfl
      refine pure_ (i := 6) (N := some 36) (v := ?_) (a' := ?_) #[true, true, true, true, true, false, true, false, false, false, false, false, false, false] rfl rfl (by kernel_rfl) (fun _ _ _ h => h) (Or.inl ⟨by rfl, ?_⟩) ?_ ?_
      rotate_left
      · intro w'
        go_simp
        with_reducible rfl
      rotate_left
      · simp only [Act.put, List.setIfInBounds_toArray, List.set_cons_zero, List.set_cons_succ, i64_w, i32_w]
        rfl
      refine pure_ (i := 7) (N := some 37) (v := ?_) (a' := ?_) #[true, true, true, true, true, false, true, true, false, false, false, false, false, false] rfl rfl (by kernel_rfl) (fun _ _ _ h => h) (Or.inl ⟨by rfl, ?_⟩) ?_ ?_
      rotate_left
      · intro w'
        go_simp
        with_reducible rfl
      rotate_left
      · simp only [Act.put, List.setIfInBounds_toArray, List.set_cons_zero, List.set_cons_succ, i64_w, i32_w]
        rfl
      refine pure_ (i := 8) (N := some 38) (v := ?_) (a' := ?_) #[true, true, true, true, true, false, true, true, true, false, false, false, false, false] rfl rfl (by kernel_rfl) (fun _ _ _ h => h) (Or.inl ⟨by rfl, ?_⟩) ?_ ?_
      rotate_left
      · intro w'
        go_simp
        with_reducible rfl
      rotate_left
      · simp only [Act.put, List.setIfInBounds_toArray, List.set_cons_zero, List.set_cons_succ, i64_w, i32_w]
        rfl
      refine pure_ (i := 9) (N := some 39) (v := ?_) (a' := ?_) #[true, true, true, true, true, false, true, true, true, true, false, false, false, false] rfl rfl (by kernel_rfl) (fun _ _ _ h => h) (Or.inl ⟨by rfl, ?_⟩) ?_ ?_
      rotate_left
      · intro w'
        go_simp
        with_reducible rfl
      rotate_left
      · simp only [Act.put, List.setIfInBounds_toArray, List.set_cons_zero, List.set_cons_succ, i64_w, i32_w]
        rfl
      refine take_ (i := 5) (N := some 35) (v := ?_) (a' := ?_) #[true, true, true, true, true, true, true, true, true, true, false, false, false, false] rfl rfl (by kernel_rfl) (fun _ _ _ h => h) (Or.inl ⟨by rfl, ?_⟩) hHeld ?_ ?_
      rotate_left
      · rintro w' ⟨s0, s1⟩
        go_simp
        with_reducible rfl
      rotate_left
      · simp only [Act.put, List.setIfInBounds_toArray, List.set_cons_zero, List.set_cons_succ, i64_w, i32_w]
        rfl
      refine take_ (i := 10) (N := some 40) (v := ?_) (a' := ?_) #[true, true, true, true, true, true, true, true, true, true, true, false, false, false] rfl rfl (by kernel_rfl) (fun _ _ _ h => h) (Or.inl ⟨by rfl, ?_⟩) hHeld ?_ ?_
      rotate_left
      · rintro w' ⟨s0, s1⟩
        go_simp
        with_reducible rfl
      rotate_left
      · simp only [Act.put, List.setIfInBounds_toArray, List.set_cons_zero, List.set_cons_succ, i64_w, i32_w]
        rfl
      refine one_ (i := 11) (N := some 41) #[true, true, true, true, true, true, true, true, true, true, true, true, false, false] rfl rfl (by kernel_rfl) (by decide) (fun K hK => ?_)
      refine value_ (w1 := ?_) (v := ?_) (by rfl) rfl ?_ ?_
      rotate_left 2
      · go_simp
        constructor
        · rfl
        · rfl
      refine hK.out _ _ ⟨(Lib.Below.cellOf (below_drew (below_alloc (Below.refl _ wr) _)) s0 (Nat.le_refl _)), (Lib.Below.cellOf (below_drew (below_alloc (Below.refl _ wr) _)) s1 (Nat.le_refl _))⟩ (fun hHeld => ?_)
      clear hK K
      refine norm_ (a' := ?_) ?_ ?_
      rotate_left
      · show Act.put _ (some 41) _ = _
        simp only [Act.put, List.setIfInBounds_toArray, List.set_cons_zero, List.set_cons_succ, i64_w, i32_w]
        rfl
      refine one_ (i := 12) (N := some 42) #[true, true, true, true, true, true, true, true, true, true, true, true, true, false] rfl rfl (by kernel_rfl) (by decide) (fun K hK => ?_)
      refine Kd.R_append_rows_step (Kd.int .u8) (Rr := fun x cs => cs = [.int .u8 x]) w.heap.size (by rfl) (.tmp 30) (.tmp 41) 26 5 (.int .u8 0) 1 rfl Try.underlying26 infoU8 (by rfl) (by decide) (by decide) (.slice A5 lb.length c5) lb [pk, pv] (some ⟨wr.heap.size, 0, none⟩) 2 2 (fun _ => True) (fun _ => False) rfl rfl (Kd.R_of_own (OB.below HL.out.ob (below_alloc (below_drew (Below.refl _ _)) _)) (fun _ _ => trivial)) (Kd.C_of_reads (d := (0 : Int)) (h1 := fun _ => rfl) (own_reads' (n := 2) (own_lit wr.drew wr.heap.size 5 .u8 [pk, pv] (Nat.le_refl _) (by simp)))) (fun x cs h => h) (fun _ h => h.elim) (fun _ _ => trivial) (below_alloc (below_drew HL.out.below) _) (below_alloc (below_drew HL.out.below) _).size (by simp; omega) ?_
      intro v9 w9 hr9 hb9 hg9 hat9
      have HN9 := Lib.hid ((HL.out.under (below_alloc (below_drew (Below.refl _ wr)) (.cells #[.int .u8 pk, .int .u8 pv] 5))).step H.out.lt hr9 hb9 hg9 hat9)
      obtain ⟨ad9, had9, s2, s3⟩ := palette_at HN9.out.pal i hlt
      obtain rfl : ad3 = ad9 := Option.some.inj had9
      rw [HPQ.out] at s2 s3
      clear hr9 hb9 hg9 hat9 had9
      refine hK.out _ _ ⟨s2, s3⟩ (fun hHeld => ?_)
      clear hK K
      refine norm_ (a' := ?_) ?_ ?_
      rotate_left
      · show Act.put _ (some 42) _ = _
        simp only [Act.put, List.setIfInBounds_toArray, List.set_cons_zero, List.set_cons_succ, i64_w, i32_w]
        rfl
      refine pure_ (i := 13) (N := some 5) (v := ?_) (a' := ?_) #[true, true, true, true, true, true, true, true, true, true, true, true, true, true] rfl rfl (by kernel_rfl) (fun _ _ _ h => h) (Or.inl ⟨by rfl, ?_⟩) ?_ ?_
      rotate_left
      · intro w'
        go_simp
        with_reducible rfl
      rotate_left
      · simp only [Act.put, List.setIfInBounds_toArray, List.set_cons_zero, List.set_cons_succ, i64_w, i32_w]
        rfl
      refine done_ (by kernel_rfl) ?_
      have HN := Lib.hid (show L1 w w9 g C L (.slice A T.length c) (.slice (some ad3) P.length c3) v9 P ([(P.length : Int)] ++ pBytes (P.take (i + 1))) from by
        rw [HPI.out, ← List.append_assoc, HLB.out]
        exact HN9.out)
      clear HN9 s0 s1
      go_wp2
      go_roundw
      case rel => exact ⟨i + 1, by omega, by go_num, ⟨HN.out⟩⟩
      case measure => simp [intOf]; omega
    · obtain rfl : i = P.length := by omega
      have hd := decide_eq_false (show ¬ (P.length : Int) < (P.length : Int) by omega)
      rw [List.take_length] at HL
      clear hlt hi
      have HL2 := Lib.hid (⟨HL.out, own_nil _ _ _ _, own_nil _ _ _ _, dj_nil _, dj_nil _, dj_nil _, dj_nil _, dj_nil _⟩ : L2 w wr g C L (.slice A T.length c) (.slice A3 P.length c3) u5 P ([(P.length : Int)] ++ pBytes P) (.slice none 0 0) (.slice none 0 0) [] [])
      clear HL HL0
      go_wp2_with fail
      obtain ⟨w5, hw5⟩ : ∃ w5, w5 = wr := ⟨_, rfl⟩
      clear hw5
      go_loopw [7, 8, 9] (fun ov uv iv W => ∃ i : Nat, i ≤ 4096 ∧ iv = .int .i64 (i : Int) ∧ Aside0 (L2 w W g C L (.slice A T.length c) (.slice A3 P.length c3) u5 P ([(P.length : Int)] ++ pBytes P) ov uv ((C.take i).map (pl P)) ((L.take i).map lcode))) (fun _ _ iv _ => 4096 - (intOf iv).toNat)
      case atStart => exact ⟨0, by omega, rfl, ⟨HL2.out⟩⟩
      case round =>
        obtain ⟨i, hi, rfl, ⟨hl2⟩⟩ := hrel
        have HL := Lib.hid hl2
        clear hl2
        by_cases hlt : i < 4096
        · have hd := decide_eq_true (show (i : Int) < 4096 by omega)
          have p1 : (0 ≤ (i : Int)) = True := eq_true (by omega)
          have p2 : ((i : Int) < 4096) = True := eq_true (by omega)
          obtain ⟨c0, c1⟩ := HL.out.l1.ch.atC i hlt
          obtain ⟨q, hq⟩ : ∃ q, C.getD i P0 = q := ⟨_, rfl⟩
          rw [hq] at c0 c1
          have hplr := Kd.R_reads' HL.out.l1.pal
          rw [List.length_map] at hplr
          have hpl := Lib.hid (place_calls P q A3 c3 wr (by omega) hplr.2.2 hplr.2.1)
          have hpz := pl_lt C i (by rw [HPK.out.lenC]; exact hlt)
          rw [HPP.out, hq] at hpz
          have HN1 := Lib.hid (show (C.take (i + 1)).map (pl P) = (C.take i).map (pl P) ++ [pl P q] from by rw [map_next _ C i (by rw [HPK.out.lenC]; exact hlt), hq])
          have HN2 := Lib.hid (map_next lcode L i (by rw [HPK.out.lenL]; exact hlt))
          obtain ⟨z, hz⟩ : ∃ z, pl P q = z := ⟨_, rfl⟩
          rw [hz] at hpl HN1 hpz
          obtain ⟨ck, cl⟩ := q
          simp only at c0 c1
          have z0 : 0 ≤ z := hpz.1
          have z1 : z < 256 := by omega
          have z2 : IntKind.u8.wrap z = z := u8_wrap _ z0 z1
          have z3 : z % 256 = z := by omega
          obtain ⟨lo, hlo⟩ : ∃ lo, (C.take i).map (pl P) = lo := ⟨_, rfl⟩
          obtain ⟨lu, hlu⟩ : ∃ lu, (L.take i).map lcode = lu := ⟨_, rfl⟩
          rw [hlo, hlu] at HL
          rw [hlo] at HN1
          rw [hlu] at HN2
          have hlol : lo.length ≤ 4096 := by rw [← hlo, List.length_map, List.length_take]; omega
          have hlul : lu.length ≤ 4096 := by rw [← hlu, List.length_map, List.length_take]; omega
          obtain ⟨A7, c7, rfl, hc7, _⟩ := OB.slice HL.out.one
          obtain ⟨A8, c8, rfl, hc8, _⟩ := OB.slice HL.out.two
          clear hz hq hplr hpz hlo hlu hc7 hc8
          go_wp2_with fail
          refine hpl.out.mono ?_; rintro e wa ⟨rfl, hba⟩
          have HLA := Lib.hid (HL.out.under hba)
          clear hba hpl c0 c1 HL
          go_wp2_with (at_builtin; refine print_append_row (w0 := w) w.heap.size rfl (.tmp 55) (.tmp 58) 26 5 .u8 1 rfl Try.underlying26 infoU8 (by decide) (.slice A7 lo.length c7) lo [z] (some ⟨wa.heap.size, 0, none⟩) 1 1 rfl rfl (by exact OB.below HLA.out.one (below_alloc (Below.refl _ _) _)) (own_reads' (n := 1) (own_lit wa wa.heap.size 5 .u8 [z] (Nat.le_refl _) (by simp))) (below_alloc HLA.out.l1.below _) (below_alloc HLA.out.l1.below _).size (by omega) ?_; intro v6 w6 hown6 hb6 hg6 hat6; have HLB := Lib.hid ((HLA.out.under (below_alloc (Below.refl _ _) _)).step1 H.out.lt hown6 hb6 hg6 hat6); clear hown6 hb6 hg6 hat6)
          have hli := HPK.out.mayL (L.getD i P0) (getD_mem L i (by rw [HPK.out.lenL]; exact hlt))
          obtain ⟨l0, l1⟩ := HLB.out.l1.ch.atL i hlt
          obtain ⟨⟨sk, la⟩, hq⟩ : ∃ q, L.getD i P0 = q := ⟨_, rfl⟩
          have HLQ := Lib.hid hq
          rw [hq] at l0 l1 hli HN2
          simp only at l0 l1 hli
          obtain ⟨y, hy⟩ : ∃ y : Int, 16 * sk + la = y := ⟨_, rfl⟩
          have hyl : lcode (sk, la) = y := by unfold lcode; simp only; omega
          rw [hyl] at HN2
          have f1 : IntKind.u8.wrap (16 * sk) = 16 * sk := u8_wrap _ (by omega) (by omega)
          have f2 : 16 * sk % 256 = 16 * sk := by omega
          have f3 : IntKind.u8.wrap (16 * sk + la) = y := by rw [hy]; exact u8_wrap _ (by omega) (by omega)
          have f4 : (16 * sk + la) % 256 = y := by omega
          have f5 : IntKind.u8.wrap y = y := u8_wrap _ (by omega) (by omega)
          have f6 : y % 256 = y := by omega
          obtain ⟨A7', c7', rfl, hc7', _⟩ := OB.slice HLB.out.one
          clear hq hyl hli z2 z3 HLA hc7'
          go_wp2_with fail
          refine start_ (n := 20) (S := fun w' => w'.cell? ⟨g, 8192 + i * 2, none⟩ = some (.int .u8 sk) ∧ w'.cell? ⟨g, 8192 + i * 2 + 1, none⟩ = some (.int .u8 la)) (ds := []) #[false, false, false, false, false, false, false, false, false, false, false, false, false, false, false, false, false, false, false, false] (by kernel_rfl) rfl rfl ⟨l0, l1⟩ (fun hHeld => ?_)
          refine pure_ (i := 0) (N := some 60) (v := ?_) (a' := ?_) #[true, false, false, false, false, false, false, false, false, false, false, false, false, false, false, false, false, false, false, false] rfl rfl (by kernel_rfl) (fun _ _ _ h => h) (Or.inl ⟨by rfl, ?_⟩) ?_ ?_
          rotate_left
          · intro w'
            go_simp
            with_reducible rfl
          rotate_left
          · simp only [Act.put, List.setIfInBounds_toArray, List.set_cons_zero, List.set_cons_succ, i64_w, i32_w]
            rfl
          refine pure_ (i := 1) (N := some 61) (v := ?_) (a' := ?_) #[true, true, false, false, false, false, false, false, false, false, false, false, false, false, false, false, false, false, false, false] rfl rfl (by kernel_rfl) (fun _ _ _ h => h) (Or.inl ⟨by rfl, ?_⟩) ?_ ?_
          rotate_left
          · intro w'
            go_simp
            with_reducible rfl
          rotate_left
          · simp only [Act.put, List.setIfInBounds_toArray, List.set_cons_zero, List.set_cons_succ, i64_w, i32_w]
            rfl
          refine pure_ (i := 2) (N := some 62) (v := ?_) (a' := ?_) #[true, true, true, false, false, false, false, false, false, false, false, false, false, false, false, false, false, false, false, false] rfl rfl (by kernel_rfl) (fun _ _ _ h => h) (Or.inl ⟨by rfl, ?_⟩) ?_ ?_
          rotate_left
          · intro w'
            go_simp
            with_reducible rfl
          rotate_left
          · simp only [Act.put, List.setIfInBounds_toArray, List.set_cons_zero, List.set_cons_succ, i64_w, i32_w]
            rfl
          refine pure_ (i := 3) (N := some 63) (v := ?_) (a' := ?_) #[true, true, true, true, false, false, false, false, false, false, false, false, false, false, false, false, false, false, false, false] rfl rfl (by kernel_rfl) (fun _ _ _ h => h) (Or.inl ⟨by rfl, ?_⟩) ?_ ?_
          rotate_left
          · intro w'
            go_simp
            with_reducible rfl
          rotate_left
          · simp only [Act.put, List.setIfInBounds_toArray, List.set_cons_zero, List.set_cons_succ, i64_w, i32_w]
            rfl
          refine pure_ (i := 4) (N := some 64) (v := ?_) (a' := ?_) #[true, true, true, true, true, false, false, false, false, false, false, false, false, false, false, false, false, false, false, false] rfl rfl (by kernel_rfl) (fun _ _ _ h => h) (Or.inl ⟨by rfl, ?_⟩) ?_ ?_
          rotate_left
          · intro w'
            go_simp
            with_reducible rfl
          rotate_left
          · simp only [Act.put, List.setIfInBounds_toArray, List.set_cons_zero, List.set_cons_succ, i64_w, i32_w]
            rfl
          refine pure_ (i := 5) (N := some 65) (v := ?_) (a' := ?_) #[true, true, true, true, true, true, false, false, false, false, false, false, false, false, false, false, false, false, false, false] rfl rfl (by kernel_rfl) (fun _ _ _ h => h) (Or.inl ⟨by rfl, ?_⟩) ?_ ?_
          rotate_left
          · intro w'
            go_simp
            with_reducible rfl
          rotate_left
          · simp only [Act.put, List.setIfInBounds_toArray, List.set_cons_zero, List.set_cons_succ, i64_w, i32_w]
            rfl
          refine pure_ (i := 6) (N := some 66) (v := ?_) (a' := ?_) #[true, true, true, true, true, true, true, false, false, false, false, false, false, false, false, false, false, false, false, false] rfl rfl (by kernel_rfl) (fun _ _ _ h => h) (Or.inl ⟨by rfl, ?_⟩) ?_ ?_
          rotate_left
          · intro w'
            go_simp
            with_reducible rfl
          rotate_left
          · simp only [Act.put, List.setIfInBounds_toArray, List.set_cons_zero, List.set_cons_succ, i64_w, i32_w]
            rfl
          refine pure_ (i := 9) (N := some 69) (v := ?_) (a' := ?_) #[true, true, true, true, true, true, true, false, false, true, false, false, false, false, false, false, false, false, false, false] rfl rfl (by kernel_rfl) (fun _ _ _ h => h) (Or.inl ⟨by rfl, ?_⟩) ?_ ?_
          rotate_left
          · intro w'
            go_simp
            with_reducible rfl
          rotate_left
          · simp only [Act.put, List.setIfInBounds_toArray, List.set_cons_zero, List.set_cons_succ, i64_w, i32_w]
            rfl
          refine pure_ (i := 10) (N := some 70) (v := ?_) (a' := ?_) #[true, true, true, true, true, true, true, false, false, true, true, false, false, false, false, false, false, false, false, false] rfl rfl (by kernel_rfl) (fun _ _ _ h => h) (Or.inl ⟨by rfl, ?_⟩) ?_ ?_
          rotate_left
          · intro w'
            go_simp
            with_reducible rfl
          rotate_left
          · simp only [Act.put, List.setIfInBounds_toArray, List.set_cons_zero, List.set_cons_succ, i64_w, i32_w]
            rfl
          refine pure_ (i := 11) (N := some 71) (v := ?_) (a' := ?_) #[true, true, true, true, true, true, true, false, false, true, true, true, false, false, false, false, false, false, false, false] rfl rfl (by kernel_rfl) (fun _ _ _ h => h) (Or.inl ⟨by rfl, ?_⟩) ?_ ?_
          rotate_left
          · intro w'
            go_simp
            with_reducible rfl
          rotate_left
          · simp only [Act.put, List.setIfInBounds_toArray, List.set_cons_zero, List.set_cons_succ, i64_w, i32_w]
            rfl
          refine pure_ (i := 12) (N := some 72) (v := ?_) (a' := ?_) #[true, true, true, true, true, true, true, false, false, true, true, true, true, false, false, false, false, false, false, false] rfl rfl (by kernel_rfl) (fun _ _ _ h => h) (Or.inl ⟨by rfl, ?_⟩) ?_ ?_
          rotate_left
          · intro w'
            go_simp
            with_reducible rfl
          rotate_left
          · simp only [Act.put, List.setIfInBounds_toArray, List.set_cons_zero, List.set_cons_succ, i64_w, i32_w]
            rfl
          refine pure_ (i := 13) (N := some 73) (v := ?_) (a' := ?_) #[true, true, true, true, true, true, true, false, false, true, true, true, true, true, false, false, false, false, false, false] rfl rfl (by kernel_rfl) (fun _ _ _ h => h) (Or.inl ⟨by rfl, ?_⟩) ?_ ?_
          rotate_left
          · intro w'
            go_simp
            with_reducible rfl
          rotate_left
          · simp only [Act.put, List.setIfInBounds_toArray, List.set_cons_zero, List.set_cons_succ, i64_w, i32_w]
            rfl
          refine pure_ (i := 14) (N := some 74) (v := ?_) (a' := ?_) #[true, true, true, true, true, true, true, false, false, true, true, true, true, true, true, false, false, false, false, false] rfl rfl (by kernel_rfl) (fun _ _ _ h => h) (Or.inl ⟨by rfl, ?_⟩) ?_ ?_
          rotate_left
          · intro w'
            go_simp
            with_reducible rfl
          rotate_left
          · simp only [Act.put, List.setIfInBounds_toArray, List.set_cons_zero, List.set_cons_succ, i64_w, i32_w]
            rfl
          refine take_ (i := 7) (N := some 67) (v := ?_) (a' := ?_) #[true, true, true, true, true, true, true, true, false, true, true, true, true, true, true, false, false, false, false, false] rfl rfl (by kernel_rfl) (fun _ _ _ h => h) (Or.inl ⟨by rfl, ?_⟩) hHeld ?_ ?_
          rotate_left
          · rintro w' ⟨s0, s1⟩
            go_simp
            with_reducible rfl
          rotate_left
          · simp only [Act.put, List.setIfInBounds_toArray, List.set_cons_zero, List.set_cons_succ, i64_w, i32_w]
            rfl
          refine pure_ (i := 8) (N := some 68) (v := ?_) (a' := ?_) #[true, true, true, true, true, true, true, true, true, true, true, true, true, true, true, false, false, false, false, false] rfl rfl (by kernel_rfl) (fun _ _ _ h => h) (Or.inl ⟨by rfl, ?_⟩) ?_ ?_
          rotate_left
          · intro w'
            go_simp
            with_reducible rfl
          rotate_left
          · simp only [Act.put, List.setIfInBounds_toArray, List.set_cons_zero, List.set_cons_succ, i64_w, i32_w]
            rfl
          refine take_ (i := 15) (N := some 75) (v := ?_) (a' := ?_) #[true, true, true, true, true, true, true, true, true, true, true, true, true, true, true, true, false, false, false, false] rfl rfl (by kernel_rfl) (fun _ _ _ h => h) (Or.inl ⟨by rfl, ?_⟩) hHeld ?_ ?_
          rotate_left
          · rintro w' ⟨s0, s1⟩
            go_simp
            with_reducible rfl
          rotate_left
          · simp only [Act.put, List.setIfInBounds_toArray, List.set_cons_zero, List.set_cons_succ, i64_w, i32_w]
            rfl
          refine pure_ (i := 16) (N := some 76) (v := ?_) (a' := ?_) #[true, true, true, true, true, true, true, true, true, true, true, true, true, true, true, true, true, false, false, false] rfl rfl (by kernel_rfl) (fun _ _ _ h => h) (Or.inl ⟨by rfl, ?_⟩) ?_ ?_
          rotate_left
          · intro w'
            go_simp
            with_reducible rfl
          rotate_left
          · simp only [Act.put, List.setIfInBounds_toArray, List.set_cons_zero, List.set_cons_succ, i64_w, i32_w]
            rfl
          refine one_ (i := 17) (N := some 77) #[true, true, true, true, true, true, true, true, true, true, true, true, true, true, true, true, true, true, false, false] rfl rfl (by kernel_rfl) (by decide) (fun K hK => ?_)
          refine value_ (w1 := ?_) (v := ?_) (by rfl) rfl ?_ ?_
          rotate_left 2
          · go_simp
            constructor
            · rfl
            · rfl
          refine hK.out _ _ ⟨(Lib.Below.cellOf (below_drew (below_alloc (Below.refl _ w6) _)) l0 (Nat.le_refl _)), (Lib.Below.cellOf (below_drew (below_alloc (Below.refl _ w6) _)) l1 (Nat.le_refl _))⟩ (fun hHeld => ?_)
          clear hK K
          refine norm_ (a' := ?_) ?_ ?_
          rotate_left
          · show Act.put _ (some 77) _ = _
            simp only [Act.put, List.setIfInBounds_toArray, List.set_cons_zero, List.set_cons_succ, i64_w, i32_w]
            rfl
          refine one_ (i := 18) (N := some 78) #[true, true, true, true, true, true, true, true, true, true, true, true, true, true, true, true, true, true, true, false] rfl rfl (by kernel_rfl) (by decide) (fun K hK => ?_)
          refine Kd.R_append_rows_step (Kd.int .u8) (Rr := fun x cs => cs = [.int .u8 x]) w.heap.size (by rfl) (.tmp 60) (.tmp 77) 26 5 (.int .u8 0) 1 rfl Try.underlying26 infoU8 (by rfl) (by decide) (by decide) (.slice A8 lu.length c8) lu [y] (some ⟨w6.heap.size, 0, none⟩) 1 1 (fun _ => True) (fun _ => False) rfl rfl (Kd.R_of_own (OB.below HLB.out.two (below_alloc (below_drew (Below.refl _ _)) _)) (fun _ _ => trivial)) (Kd.C_of_reads (d := (0 : Int)) (h1 := fun _ => rfl) (own_reads' (n := 1) (own_lit w6.drew w6.heap.size 5 .u8 [y] (Nat.le_refl _) (by simp)))) (fun x cs h => h) (fun _ h => h.elim) (fun _ _ => trivial) (below_alloc (below_drew HLB.out.l1.below) _) (below_alloc (below_drew HLB.out.l1.below) _).size (by omega) ?_
          intro v9 w9 hr9 hb9 hg9 hat9
          have HN9 := Lib.hid ((HLB.out.under (below_alloc (below_drew (Below.refl _ w6)) (.cells #[.int .u8 y] 5))).step2 H.out.lt (OB.of_R hr9) hb9 hg9 hat9)
          obtain ⟨s2, s3⟩ := HN9.out.l1.ch.atL i hlt
          rw [HLQ.out] at s2 s3
          clear hr9 hb9 hg9 hat9
          refine hK.out _ _ ⟨s2, s3⟩ (fun hHeld => ?_)
          clear hK K
          refine norm_ (a' := ?_) ?_ ?_
          rotate_left
          · show Act.put _ (some 78) _ = _
            simp only [Act.put, List.setIfInBounds_toArray, List.set_cons_zero, List.set_cons_succ, i64_w, i32_w]
            rfl
          refine pure_ (i := 19) (N := some 8) (v := ?_) (a' := ?_) #[true, true, true, true, true, true, true, true, true, true, true, true, true, true, true, true, true, true, true, true] rfl rfl (by kernel_rfl) (fun _ _ _ h => h) (Or.inl ⟨by rfl, ?_⟩) ?_ ?_
          rotate_left
          · intro w'
            go_simp
            with_reducible rfl
          rotate_left
          · simp only [Act.put, List.setIfInBounds_toArray, List.set_cons_zero, List.set_cons_succ, i64_w, i32_w]
            rfl
          refine done_ (by kernel_rfl) ?_
          have HN := Lib.hid (show L2 w w9 g C L (.slice A T.length c) (.slice A3 P.length c3) u5 P ([(P.length : Int)] ++ pBytes P) _ v9 ((C.take (i + 1)).map (pl P)) ((L.take (i + 1)).map lcode) from by
            rw [HN1.out, HN2.out]
            exact HN9.out)
          clear HN9 HLB f1 f2 f3 f4 f5 f6 hy l0 l1
          go_wp2
          go_roundw
          case rel => exact ⟨i + 1, by omega, by go_num, ⟨HN.out⟩⟩
          case measure => simp [intOf]; omega
        · obtain rfl : i = 4096 := by omega
          have hd := decide_eq_false (show ¬ ((4096 : Nat) : Int) < 4096 by decide)
          have e1 : C.take 4096 = C := List.take_of_length_le (by rw [HPK.out.lenC]; exact Nat.le_refl _)
          have e2 : L.take 4096 = L := List.take_of_length_le (by rw [HPK.out.lenL]; exact Nat.le_refl _)
          have e3 : C.map (pl P) = (codes C).2 := by rw [← HPP.out, ← codes_pl]
          rw [e1, e2, e3] at HL
          clear e1 e2 e3 hlt hi
          obtain ⟨D, hD⟩ : ∃ D, (codes C).2 = D := ⟨_, rfl⟩
          obtain ⟨E, hE⟩ : ∃ E, L.map lcode = E := ⟨_, rfl⟩
          have hDl : D.length = 4096 := by rw [← hD, codes_len, HPK.out.lenC]
          have hEl : E.length = 4096 := by rw [← hE, List.length_map, HPK.out.lenL]
          have hKB := Lib.hid (show packB C L T = ([(P.length : Int)] ++ pBytes P) ++ RU.row D ++ RU.row E ++ num T.length ++ tBytes (-1) T from by rw [← hD, ← hE, ← HPP.out]; rfl)
          have hrD := row_le D (by omega)
          have hrE := row_le E (by omega)
          rw [hDl] at hrD
          rw [hEl] at hrE
          have HDL := Lib.hid hDl
          have HEL := Lib.hid hEl
          clear hDl hEl
          rw [hD, hE] at HL
          obtain ⟨lb, hlb⟩ : ∃ lb, [(P.length : Int)] ++ pBytes P = lb := ⟨_, rfl⟩
          have hlbl : lb.length ≤ 1000 := by rw [← hlb, List.length_append, pBytes_len]; simp; omega
          rw [hlb] at HL hKB
          obtain ⟨A7, c7, hu7, hc7, hr7⟩ := OB.slice HL.out.one
          subst hu7
          have hput1 := Lib.hid (refPut_calls A7 c7 D wr (by rw [HDL.out]; decide) hr7 hc7)
          clear hD hE hlb hc7 hr7
          go_wp2_with fail
          refine hput1.out.mono ?_; rintro e wa ⟨va, rfl, hoa, hba⟩
          obtain ⟨Aa, ca, rfl, hca, hra⟩ := OB.slice hoa
          have HLA := Lib.hid (HL.out.under hba)
          have HRA := Lib.hid hra
          clear hoa hba hca hra hput1 HL
          go_upto_region 19 with (at_builtin; refine print_append_row (w0 := w) w.heap.size rfl (.tmp 79) (.tmp 81) 26 5 .u8 1 rfl Try.underlying26 infoU8 (by decide) u5 lb (RU.row D) Aa (RU.row D).length ca rfl rfl HLA.out.l1.ob HRA.out HLA.out.l1.below HLA.out.l1.below.size (by omega) ?_; intro v6 w6 hown6 hb6 hg6 hat6; have HO6 := Lib.hid hown6; have HB6 := Lib.hid hb6; have HE6 := Lib.hid (OB.grownO HLA.out.two hg6 HLA.out.d4.symm); have HD6 := Lib.hid ((Dj.fresh HLA.out.two HLA.out.d4.symm hat6)); clear hown6 hb6 hg6 hat6)
          obtain ⟨A8, c8, hu8, hc8, hr8⟩ := OB.slice HE6.out
          subst hu8
          have hput2 := Lib.hid (refPut_calls A8 c8 E w6 (by rw [HEL.out]; decide) hr8 hc8)
          clear hc8 hr8 HRA HLA
          go_wp2_with fail
          refine hput2.out.mono ?_; rintro e wb ⟨vb, rfl, hob, hbb⟩
          obtain ⟨Ab, cb, rfl, hcb, hrb⟩ := OB.slice hob
          have HBB := Lib.hid (below_step HB6.out hbb)
          have HOB := Lib.hid (OB.below HO6.out hbb)
          have HRB := Lib.hid hrb
          clear hob hbb hcb hrb hput2 HE6 HD6 HO6
          obtain ⟨M1, hM1⟩ : ∃ M1, lb ++ RU.row D = M1 := ⟨_, rfl⟩
          have hM1l : M1.length ≤ 10000 := by rw [← hM1, List.length_append]; omega
          rw [hM1] at HOB hKB
          go_upto_region 20 with (at_builtin; refine print_append_row (w0 := w) w.heap.size rfl (.tmp 83) (.tmp 85) 26 5 .u8 1 rfl Try.underlying26 infoU8 (by decide) v6 M1 (RU.row E) Ab (RU.row E).length cb rfl rfl HOB.out HRB.out HBB.out HBB.out.size (by omega) ?_; intro v7 w7 hown7 hb7 hg7 hat7; have HO7 := Lib.hid hown7; have HB7 := Lib.hid hb7; clear hown7 hb7 hg7 hat7)
          obtain ⟨M2, hM2⟩ : ∃ M2, M1 ++ RU.row E = M2 := ⟨_, rfl⟩
          have hM2l : M2.length ≤ 20000 := by rw [← hM2, List.length_append]; omega
          rw [hM2] at HO7 hKB
          have HO7' := Lib.hid (show OB w7 w.heap.size v7 M2 from HO7.out)
          have t7 := (H.out.below HB7.out H.out.lt).atT
          have hnum := Lib.hid (refNum_calls T.length w7 (by omega))
          have k3 : IntKind.u64.wrap (T.length : Int) = (T.length : Int) := CF.wu64_id _ (by omega) (by omega)
          clear HOB HRB hM1 hM2 HO7
          go_wp2_with fail
          refine hnum.out.mono ?_; rintro e wc ⟨vc, rfl, hoc, hbc⟩
          obtain ⟨Ac, cc, rfl, hcc, hrc⟩ := OB.slice hoc
          have HBC := Lib.hid (below_step HB7.out hbc)
          have HOC := Lib.hid (OB.below HO7'.out hbc)
          have HRC := Lib.hid hrc
          have hnl := num_le T.length
          clear hoc hbc hcc hrc hnum HO7' k3 t7
          go_upto_region 21 with (at_builtin; refine print_append_row (w0 := w) w.heap.size rfl (.tmp 87) (.tmp 94) 26 5 .u8 1 rfl Try.underlying26 infoU8 (by decide) v7 M2 (num T.length) Ac (num T.length).length cc rfl rfl HOC.out HRC.out HBC.out HBC.out.size (by omega) ?_; intro v8 w8 hown8 hb8 hg8 hat8; have HO8 := Lib.hid hown8; have HB8 := Lib.hid hb8; clear hown8 hb8 hg8 hat8)
          obtain ⟨M3, hM3⟩ : ∃ M3, M2 ++ num T.length = M3 := ⟨_, rfl⟩
          have hM3l : M3.length ≤ 21000 := by rw [← hM3, List.length_append]; omega
          rw [hM3] at HO8 hKB
          have HO8' := Lib.hid (show OB w8 w.heap.size v8 M3 from HO8.out)
          clear HOC HRC hM3 HO8 hnl
          go_wp2_with fail
          go_loopw [5, 11] (fun bv iv W => ∃ j : Nat, j ≤ T.length ∧ iv = .int .i64 (j : Int) ∧ Aside0 (OB W w.heap.size bv (M3 ++ tBytes (-1) (T.take j)) ∧ Below w.heap.size w W)) (fun _ iv _ => T.length - (intOf iv).toNat)
          case atStart => exact ⟨0, by omega, rfl, ⟨by rw [show M3 ++ tBytes (-1) (T.take 0) = M3 by simp [tBytes]]; exact HO8'.out, HB8.out⟩⟩
          case round =>
            obtain ⟨j, hj, rfl, ⟨hob, hb⟩⟩ := hrel
            have HOB := Lib.hid hob
            have HBj := Lib.hid hb
            have t7 := (H.out.below hb H.out.lt).atT
            by_cases hjl : j < T.length
            · have hd2 := decide_eq_true (show (j : Int) < (T.length : Int) by omega)
              obtain ⟨ad, rfl, t0, t1⟩ := tick_at (Kd.C_below HT.out hb) j hjl
              have hta := tOk_at T (may_tick HPK.out.may) j hjl
              have HSN := Lib.hid (tBytes_next T j hjl)
              obtain ⟨⟨ta, td⟩, hti⟩ : ∃ q, T.getD j P0 = q := ⟨_, rfl⟩
              have HTI := Lib.hid hti
              rw [hti] at t0 t1 hta HSN
              simp only at hta HSN
              obtain ⟨n1, hn1⟩ : ∃ n1 : Nat, (n1 : Int) = ta - wasAt T j - 1 := ⟨(ta - wasAt T j - 1).toNat, by omega⟩
              obtain ⟨n2, hn2⟩ : ∃ n2 : Nat, (n2 : Int) = td := ⟨td.toNat, by omega⟩
              have hn1l : n1 < 5000 := by omega
              have hn2l : n2 < 3000000000000 := by omega
              rw [show (ta - wasAt T j - 1).toNat = n1 by omega, show td.toNat = n2 by omega] at HSN
              obtain ⟨M4, hM4⟩ : ∃ M4, M3 ++ tBytes (-1) (T.take j) = M4 := ⟨_, rfl⟩
              have hM4l : M4.length ≤ 100000000 := by
                rw [← hM4, List.length_append]
                have := tBytes_le (T.take j) (-1) (by omega) (tOk_take T (-1) (may_tick HPK.out.may) j)
                rw [List.length_take] at this
                omega
              rw [hM4] at HOB
              have HM4 := Lib.hid hM4
              obtain ⟨A5, c5, hu5, hc5, hr5⟩ := OB.slice HOB.out
              have q1 : (0 ≤ (j : Int)) = True := eq_true (by omega)
              have q2 : ((j : Int) < (T.length : Int)) = True := eq_true (by omega)
              have hnum1 := Lib.hid (fun W => refNum_calls n1 W (by omega))
              have hnum2 := Lib.hid (fun W => refNum_calls n2 W (by omega))
              have hnl1 := num_le n1
              have hnl2 := num_le n2
              have k4 : IntKind.u64.wrap (n1 : Int) = (n1 : Int) := CF.wu64_id _ (by omega) (by omega)
              have k5 : IntKind.u64.wrap (n2 : Int) = (n2 : Int) := CF.wu64_id _ (by omega) (by omega)
              clear hob hb hti hM4 hr5 hc5 hu5
              obtain rfl : (n2 : Int) = td := hn2
              by_cases hj0 : j = 0
              · have hw : wasAt T j = -1 := by rw [hj0]; rfl
                obtain rfl : (n1 : Int) = ta := by omega
                have z4 := decide_eq_false (show ¬ (0 : Int) < (j : Int) by omega)
                have z5 : decide (0 < j) = false := decide_eq_false (by omega)
                clear hw hta hn1 hj0
                go_wp2_with fail
                refine (hnum1.out _).mono ?_; rintro e wd ⟨vd, rfl, hod, hbd⟩
                obtain ⟨Ad, cd, rfl, hcd, hrd⟩ := OB.slice hod
                have HBD := Lib.hid (below_step HBj.out hbd)
                have HOD := Lib.hid (OB.below HOB.out hbd)
                have HRD := Lib.hid hrd
                clear hod hbd hcd hrd t7 t0 t1
                go_upto_region 28 with (at_builtin; refine print_append_row (w0 := w) w.heap.size rfl (.tmp 127) (.tmp 130) 26 5 .u8 1 rfl Try.underlying26 infoU8 (by decide) u5 M4 (num n1) Ad (num n1).length cd rfl rfl HOD.out HRD.out HBD.out HBD.out.size (by omega) ?_; intro v9 w9 hown9 hb9 hg9 hat9; have HO9 := Lib.hid hown9; have HB9 := Lib.hid hb9; clear hown9 hb9 hg9 hat9)
                obtain ⟨M5, hM5⟩ : ∃ M5, M4 ++ num n1 = M5 := ⟨_, rfl⟩
                have hM5l : M5.length ≤ 100000010 := by rw [← hM5, List.length_append]; omega
                have HO9' := Lib.hid (show OB w9 w.heap.size v9 M5 from by rw [← hM5]; exact HO9.out)
                have HM5 := Lib.hid hM5
                have t7 := (H.out.below HB9.out H.out.lt).atT
                obtain ⟨ad5, had5, _, t1⟩ := tick_at (Kd.C_below HT.out HB9.out) j hjl
                obtain rfl : ad = ad5 := Option.some.inj had5
                rw [HTI.out] at t1
                clear HOD HRD HO9 hM5 had5
                go_wp2_with fail
                refine (hnum2.out _).mono ?_; rintro e we ⟨ve, rfl, hoe, hbe⟩
                obtain ⟨Ae, ce, rfl, hce, hre⟩ := OB.slice hoe
                have HBE := Lib.hid (below_step HB9.out hbe)
                have HOE := Lib.hid (OB.below HO9'.out hbe)
                have HRE := Lib.hid hre
                clear hoe hbe hce hre t7 t1
                go_wp2_with (at_builtin; refine print_append_row (w0 := w) w.heap.size rfl (.tmp 132) (.tmp 142) 26 5 .u8 1 rfl Try.underlying26 infoU8 (by decide) v9 M5 (num n2) Ae (num n2).length ce rfl rfl HOE.out HRE.out HBE.out HBE.out.size (by omega) ?_; intro v10 w10 hown10 hb10 hg10 hat10; have HO10 := Lib.hid hown10; have HB10 := Lib.hid hb10; clear hown10 hb10 hg10 hat10)
                have HN := Lib.hid (show OB w10 w.heap.size v10 (M3 ++ tBytes (-1) (T.take (j + 1))) from by
                  rw [HSN.out, ← List.append_assoc, HM4.out, ← List.append_assoc, HM5.out]
                  exact HO10.out)
                clear HOE HRE HO10
                go_roundw
                case rel => exact ⟨j + 1, by omega, by go_num, ⟨HN.out, HB10.out⟩⟩
                case measure => simp [intOf]; omega
              · obtain ⟨jm, hjm⟩ : ∃ jm, j = jm + 1 := ⟨j - 1, by omega⟩
                obtain ⟨ad', had, t2, _⟩ := tick_at (Kd.C_below HT.out HBj.out) jm (by omega)
                obtain rfl : ad = ad' := Option.some.inj had
                obtain ⟨tp, htp⟩ : ∃ tp, (T.getD jm P0).1 = tp := ⟨_, rfl⟩
                rw [htp] at t2
                have hw : wasAt T j = tp := by rw [hjm]; exact htp
                have z1 : (j : Int) - 1 = (jm : Int) := by omega
                have z2 : ta - tp - 1 = (n1 : Int) := by omega
                have z4 := decide_eq_true (show (0 : Int) < (j : Int) by omega)
                have z5 : decide (0 < j) = true := decide_eq_true (by omega)
                have q3 : (0 ≤ (jm : Int)) = True := eq_true (by omega)
                have q4 : ((jm : Int) < (T.length : Int)) = True := eq_true (by omega)
                have b1 : -1 ≤ ta ∧ ta < 4096 := by omega
                have b2 : -1 ≤ tp ∧ tp < 4096 := by omega
                clear htp had hj0 hjm hw hta hn1
                go_wp2_with fail
                refine (hnum1.out _).mono ?_; rintro e wd ⟨vd, rfl, hod, hbd⟩
                obtain ⟨Ad, cd, rfl, hcd, hrd⟩ := OB.slice hod
                have HBD := Lib.hid (below_step HBj.out hbd)
                have HOD := Lib.hid (OB.below HOB.out hbd)
                have HRD := Lib.hid hrd
                clear hod hbd hcd hrd t7 t0 t1
                go_upto_region 28 with (at_builtin; refine print_append_row (w0 := w) w.heap.size rfl (.tmp 127) (.tmp 130) 26 5 .u8 1 rfl Try.underlying26 infoU8 (by decide) u5 M4 (num n1) Ad (num n1).length cd rfl rfl HOD.out HRD.out HBD.out HBD.out.size (by omega) ?_; intro v9 w9 hown9 hb9 hg9 hat9; have HO9 := Lib.hid hown9; have HB9 := Lib.hid hb9; clear hown9 hb9 hg9 hat9)
                obtain ⟨M5, hM5⟩ : ∃ M5, M4 ++ num n1 = M5 := ⟨_, rfl⟩
                have hM5l : M5.length ≤ 100000010 := by rw [← hM5, List.length_append]; omega
                have HO9' := Lib.hid (show OB w9 w.heap.size v9 M5 from by rw [← hM5]; exact HO9.out)
                have HM5 := Lib.hid hM5
                have t7 := (H.out.below HB9.out H.out.lt).atT
                obtain ⟨ad5, had5, _, t1⟩ := tick_at (Kd.C_below HT.out HB9.out) j hjl
                obtain rfl : ad = ad5 := Option.some.inj had5
                rw [HTI.out] at t1
                clear HOD HRD HO9 hM5 had5
                go_wp2_with fail
                refine (hnum2.out _).mono ?_; rintro e we ⟨ve, rfl, hoe, hbe⟩
                obtain ⟨Ae, ce, rfl, hce, hre⟩ := OB.slice hoe
                have HBE := Lib.hid (below_step HB9.out hbe)
                have HOE := Lib.hid (OB.below HO9'.out hbe)
                have HRE := Lib.hid hre
                clear hoe hbe hce hre t7 t1
                go_wp2_with (at_builtin; refine print_append_row (w0 := w) w.heap.size rfl (.tmp 132) (.tmp 142) 26 5 .u8 1 rfl Try.underlying26 infoU8 (by decide) v9 M5 (num n2) Ae (num n2).length ce rfl rfl HOE.out HRE.out HBE.out HBE.out.size (by omega) ?_; intro v10 w10 hown10 hb10 hg10 hat10; have HO10 := Lib.hid hown10; have HB10 := Lib.hid hb10; clear hown10 hb10 hg10 hat10)
                have HN := Lib.hid (show OB w10 w.heap.size v10 (M3 ++ tBytes (-1) (T.take (j + 1))) from by
                  rw [HSN.out, ← List.append_assoc, HM4.out, ← List.append_assoc, HM5.out]
                  exact HO10.out)
                clear HOE HRE HO10
                go_roundw
                case rel => exact ⟨j + 1, by omega, by go_num, ⟨HN.out, HB10.out⟩⟩
                case measure => simp [intOf]; omega
            · obtain rfl : j = T.length := by omega
              have hd2 := decide_eq_false (show ¬ (T.length : Int) < (T.length : Int) by omega)
              rw [List.take_length, ← hKB.out] at HOB
              clear hob hb
              go_wp2
              go_ret2
              exact ⟨_, rfl, HOB.out, HBj.out⟩
end Go.Proofs.Ytkecppgodmbmlaa.PK

namespace Go.Proofs.Ytkecppgodmbmlaa.PK
open Go.RowKit Go.Proofs.YtkecppgodmbmlaaW.PrintWords Go.Proofs.YtkecppgodmbmlaaW.PrintLast Go.Proofs.YtkecppgodmbmlaaW.PrintMore Go.Proofs.Ytkecppgodmbmlaa.CD Go.Proofs.Ytkecppgodmbmlaa.BR
set_option linter.unusedVariables false
set_option linter.unusedSimpArgs false
theorem eq_tick (p q : Pr) (W : World) : (Op.equalIn 10000 48 (.agg #[.int .i64 p.1, .int .i64 p.2]) (.agg #[.int .i64 q.1, .int .i64 q.2])).run Try.prog W = .ok (p.1 == q.1 && (p.2 == q.2)) W := by
  refine eqA_of (d := 9999) Try.underlying48 (by kernel_rfl) ?_
  refine eqf_cons (by rfl) (by go_simp; rfl) (by go_simp; rfl) (by go_simp) ?_
  exact eqf_last (by rfl) (by go_simp; rfl) (by go_simp; rfl) (by go_simp)
end Go.Proofs.Ytkecppgodmbmlaa.PK

namespace Go.Proofs.Ytkecppgodmbmlaa.PK
open Go.RowKit Go.Proofs.YtkecppgodmbmlaaW.PrintWords Go.Proofs.YtkecppgodmbmlaaW.PrintLast Go.Proofs.YtkecppgodmbmlaaW.PrintMore Go.Proofs.Ytkecppgodmbmlaa.CD Go.Proofs.Ytkecppgodmbmlaa.BR
set_option linter.unusedVariables false
set_option linter.unusedSimpArgs false
theorem eq_cell' (p q : Pr) (W : World) : (Op.equalIn 10000 34 (.agg #[.int .u8 p.1, .int .u8 p.2]) (.agg #[.int .u8 q.1, .int .u8 q.2])).run Try.prog W = .ok (p.1 == q.1 && (p.2 == q.2)) W := by
  refine eqA_of (d := 9999) Try.underlying34 (by kernel_rfl) ?_
  refine eqf_cons (by rfl) (by go_simp; rfl) (by go_simp; rfl) (by go_simp) ?_
  exact eqf_last (by rfl) (by go_simp; rfl) (by go_simp; rfl) (by go_simp)
theorem eq_light' (p q : Pr) (W : World) : (Op.equalIn 10000 36 (.agg #[.int .u8 p.1, .int .u8 p.2]) (.agg #[.int .u8 q.1, .int .u8 q.2])).run Try.prog W = .ok (p.1 == q.1 && (p.2 == q.2)) W := by
  refine eqA_of (d := 9999) Try.underlying36 (by kernel_rfl) ?_
  refine eqf_cons (by rfl) (by go_simp; rfl) (by go_simp; rfl) (by go_simp) ?_
  exact eqf_last (by rfl) (by go_simp; rfl) (by go_simp; rfl) (by go_simp)
set_option maxHeartbeats 2000000 in
set_option maxRecDepth 100000 in
theorem rsame_calls (g1 g2 : Nat) (C L T : List Pr) (v1 v2 : Value) (w : World) (h1 : Chunk w g1 C L v1) (h2 : Chunk w g2 C L v2) (k1 : TK w v1 T) (k2 : TK w v2 T) (hT : T.length ≤ 1000000) :
    Calls Try.prog 14 #[.pointer (some ⟨g1, 0, none⟩), .pointer (some ⟨g2, 0, none⟩)] w fun e w' => e = .returned (.bool true) ∧ Below w.heap.size w w' := by
  obtain ⟨A1, c1, rfl, hc1, hk1⟩ := k1
  obtain ⟨A2, c2, rfl, hc2, hk2⟩ := k2
  have H1 := Lib.hid h1
  have H2 := Lib.hid h2
  have HK1 := Lib.hid hk1
  have HK2 := Lib.hid hk2
  clear h1 h2 hk1 hk2
  go_enter Try.func14, Try.ntmps14
  go_wp2
  go_loopw [5] (fun iv W => ∃ i : Nat, i ≤ 4096 ∧ iv = .int .i64 (i : Int) ∧ Aside0 (Below w.heap.size w W)) (fun iv _ => 4096 - (intOf iv).toNat)
  case atStart => exact ⟨0, by omega, rfl, ⟨Below.refl _ _⟩⟩
  case round =>
    obtain ⟨i, hi, rfl, ⟨hb⟩⟩ := hrel
    have HB := Lib.hid hb
    by_cases hlt : i < 4096
    · have d1 := decide_eq_true (show (i : Int) < 4096 by omega)
      obtain ⟨a0, a1⟩ := (H1.out.below hb H1.out.lt).atC i hlt
      obtain ⟨b0, b1⟩ := (H2.out.below hb H2.out.lt).atC i hlt
      obtain ⟨a2, a3⟩ := (H1.out.below hb H1.out.lt).atL i hlt
      obtain ⟨b2, b3⟩ := (H2.out.below hb H2.out.lt).atL i hlt
      obtain ⟨⟨ck, cl⟩, hc⟩ : ∃ q, C.getD i P0 = q := ⟨_, rfl⟩
      obtain ⟨⟨sk, la⟩, hl⟩ : ∃ q, L.getD i P0 = q := ⟨_, rfl⟩
      rw [hc] at a0 a1 b0 b1
      rw [hl] at a2 a3 b2 b3
      have q5 := fun W => (eq_cell' (ck, cl) (ck, cl) W).trans (by rw [beq_self_eq_true, beq_self_eq_true]; rfl : _ = Result.ok true W)
      have q6 := fun W => (eq_light' (sk, la) (sk, la) W).trans (by rw [beq_self_eq_true, beq_self_eq_true]; rfl : _ = Result.ok true W)
      have q7 : Try.prog.eqGuardType Try.prog.depth 34 = false := by kernel_rfl
      have q8 : Try.prog.eqGuardType Try.prog.depth 36 = false := by kernel_rfl
      have p1 : (0 ≤ (i : Int)) = True := eq_true (by omega)
      have p2 : ((i : Int) < 4096) = True := eq_true (by omega)
      have p3 : (0 : Int) ≤ (i : Int) := by omega
      have p4 : (i : Int) < 4096 := by omega
      clear hb hc hl
      go_wp2_with fail
      go_quiet (fail)
      go_wp2
      go_roundw
      case rel => exact ⟨i + 1, by omega, by go_num, ⟨by repeat (first | exact HB.out | apply below_drew | apply pw_below_drewN)⟩⟩
      case measure => simp [intOf]; omega
    · have d1 := decide_eq_false (show ¬ (i : Int) < 4096 by omega)
      have t1 := (H1.out.below hb H1.out.lt).atT
      have t2 := (H2.out.below hb H2.out.lt).atT
      clear hb
      go_wp2_with fail
      go_quiet (fail)
      go_wp2
      clear t1 t2
      go_loopw [6] (fun iv W => ∃ j : Nat, j ≤ T.length ∧ iv = .int .i64 (j : Int) ∧ Aside0 (Below w.heap.size w W)) (fun iv _ => T.length - (intOf iv).toNat)
      case atStart => exact ⟨0, by omega, rfl, ⟨by repeat (first | exact HB.out | apply below_drew | apply pw_below_drewN)⟩⟩
      case round =>
        obtain ⟨j, hj, rfl, ⟨hb⟩⟩ := hrel
        have HBj := Lib.hid hb
        have t1 := (H1.out.below hb H1.out.lt).atT
        have t2 := (H2.out.below hb H2.out.lt).atT
        by_cases hjl : j < T.length
        · have d2 := decide_eq_true (show (j : Int) < (T.length : Int) by omega)
          obtain ⟨ad1, rfl, s0, s1⟩ := tick_at (Kd.C_below HK1.out hb) j hjl
          obtain ⟨ad2, rfl, s2, s3⟩ := tick_at (Kd.C_below HK2.out hb) j hjl
          obtain ⟨⟨ta, td⟩, hti⟩ : ∃ q, T.getD j P0 = q := ⟨_, rfl⟩
          rw [hti] at s0 s1 s2 s3
          have q5 := fun W => (eq_tick (ta, td) (ta, td) W).trans (by rw [beq_self_eq_true, beq_self_eq_true]; rfl : _ = Result.ok true W)
          have q6 : Try.prog.eqGuardType Try.prog.depth 48 = false := by kernel_rfl
          have p1 : (0 ≤ (j : Int)) = True := eq_true (by omega)
          have p2 : ((j : Int) < (T.length : Int)) = True := eq_true (by omega)
          have p3 : (0 : Int) ≤ (j : Int) := by omega
          have p4 : (j : Int) < (T.length : Int) := by omega
          clear hb hti
          go_wp2_with fail
          go_quiet (fail)
          go_wp2
          go_roundw
          case rel => exact ⟨j + 1, by omega, by go_num, ⟨by repeat (first | exact HBj.out | apply below_drew | apply pw_below_drewN)⟩⟩
          case measure => simp [intOf]; omega
        · have d2 := decide_eq_false (show ¬ (j : Int) < (T.length : Int) by omega)
          clear hb
          go_wp2
          go_ret
          exact ⟨rfl, HBj.out⟩
end Go.Proofs.Ytkecppgodmbmlaa.PK

namespace Go.Proofs.Ytkecppgodmbmlaa.PK
open Go.RowKit Go.Proofs.YtkecppgodmbmlaaW.PrintWords Go.Proofs.YtkecppgodmbmlaaW.PrintLast Go.Proofs.YtkecppgodmbmlaaW.PrintMore Go.Proofs.Ytkecppgodmbmlaa.CD Go.Proofs.Ytkecppgodmbmlaa.BR
attribute [local go_sem] max2_int min2_int max_two min_two max_three min_three max_four min_four
set_option linter.unusedVariables false
set_option linter.unusedSimpArgs false
theorem Pts.below {w w' : World} {A : Option Addr} {ps : List Pt} (h : Pts w A ps) (hb : Below w.heap.size w w') : Pts w' A ps := fun j hj => by
  obtain ⟨ad, rfl, h0, h1, h2, h3, h4, h5⟩ := h j hj
  have k := fun (p : Addr) (v : Value) (hc : w.cell? p = some v) => Lib.Below.cellOf hb hc (Nat.le_refl _)
  exact ⟨ad, rfl, k _ _ h0, k _ _ h1, k _ _ h2, k _ _ h3, k _ _ h4, k _ _ h5⟩
structure Fi (w W : World) (g : Nat) (C L : List Pr) (at_ i : Nat) (c l : Pr) : Prop where
  below : Below g w W
  ch : Chunk W g (fillN at_ c i C) (fillN at_ l i L) (.slice none 0 0)
end Go.Proofs.Ytkecppgodmbmlaa.PK

namespace Go.Proofs.Ytkecppgodmbmlaa.PK
open Go.RowKit Go.Proofs.YtkecppgodmbmlaaW.PrintWords Go.Proofs.YtkecppgodmbmlaaW.PrintLast Go.Proofs.YtkecppgodmbmlaaW.PrintMore Go.Proofs.Ytkecppgodmbmlaa.CD Go.Proofs.Ytkecppgodmbmlaa.BR
attribute [local go_sem] max2_int min2_int max_two min_two max_three min_three max_four min_four
set_option linter.unusedVariables false
set_option linter.unusedSimpArgs false
end Go.Proofs.Ytkecppgodmbmlaa.PK

namespace Go.Proofs.Ytkecppgodmbmlaa.PK
open Go.ChangeShapes Go.WideShapes Go.Deep Go.RowKit Go.Proofs.YtkecppgodmbmlaaW.PrintWords Go.Proofs.YtkecppgodmbmlaaW.PrintLast Go.Proofs.YtkecppgodmbmlaaW.PrintMore
set_option linter.unusedVariables false
set_option linter.unusedSimpArgs false
section
variable {H : Type} {enc : TypeId × Value → H} {w : World} {base : Nat} {spare : Nat → Bool} {held : Bool}
end
section
variable {H : Type} {enc : TypeId × Value → H} {w : World} {base : Nat} {held : Bool}
end
end Go.Proofs.Ytkecppgodmbmlaa.PK

namespace Go.Proofs.Ytkecppgodmbmlaa.PK
open Go.ChangeShapes Go.WideShapes Go.Deep Go.RowKit Go.Proofs.YtkecppgodmbmlaaW.PrintWords Go.Proofs.YtkecppgodmbmlaaW.PrintLast Go.Proofs.YtkecppgodmbmlaaW.PrintMore
set_option linter.unusedVariables false
set_option linter.unusedSimpArgs false
section
variable {H : Type} {enc : TypeId × Value → H} {w : World} {base : Nat} {spare : Nat → Bool} {held : Bool}
end
section
variable {H : Type} {enc : TypeId × Value → H} {w : World} {base : Nat} {held : Bool}
end
end Go.Proofs.Ytkecppgodmbmlaa.PK

namespace Go.Proofs.Ytkecppgodmbmlaa.BR
open Go.ChangeShapes Go.WideShapes Go.Deep Go.RowKit Go.Proofs.YtkecppgodmbmlaaW.PrintWords Go.Proofs.YtkecppgodmbmlaaW.PrintLast Go.Proofs.YtkecppgodmbmlaaW.PrintMore
set_option linter.unusedVariables false
set_option linter.unusedSimpArgs false
section
variable {H : Type} {enc : TypeId × Value → H} {P : Program} {w : World} {base : Nat} {spare : Nat → Bool} {held : Bool}
end
theorem at_field (a : Addr) (i k : Nat) (hk : 0 < k) : a.add (i + k) = ⟨(a.add i).block, (a.add i).off + k, none⟩ := by
  unfold Addr.add
  rw [if_neg (by omega)]
  split
  · subst_vars; simp
  · simp [Nat.add_assoc]
def Pairs (w : World) (A : Option Addr) (n : Nat) (xs : List (Int × Int)) : Prop :=
  xs.length = n ∧ (0 < n → ∃ ad, A = some ad ∧ ∀ j, j < n → w.cell? (ad.add (j * 2)) = some (.int .i64 (xs.getD j (0, 0)).1) ∧ w.cell? (ad.add (j * 2 + 1)) = some (.int .i64 (xs.getD j (0, 0)).2)) ∧
    ∀ j, j < n → ((-9223372036854775808 ≤ (xs.getD j (0, 0)).1 ∧ (xs.getD j (0, 0)).1 ≤ 9223372036854775807) ∧ -9223372036854775808 ≤ (xs.getD j (0, 0)).2 ∧ (xs.getD j (0, 0)).2 ≤ 9223372036854775807)
theorem Pairs.below {w w1 : World} {A : Option Addr} {n : Nat} {xs : List (Int × Int)} (h : Pairs w A n xs) (hb : Below w.heap.size w w1) : Pairs w1 A n xs :=
  ⟨h.1, fun hn => by
    obtain ⟨ad, e, hc⟩ := h.2.1 hn
    exact ⟨ad, e, fun j hj => ⟨pw_cell_below hb (hc j hj).1, pw_cell_below hb (hc j hj).2⟩⟩, h.2.2⟩
end Go.Proofs.Ytkecppgodmbmlaa.BR

namespace Go.Proofs.Ytkecppgodmbmlaa.PK
open Go.RowKit Go.Proofs.YtkecppgodmbmlaaW.PrintWords Go.Proofs.YtkecppgodmbmlaaW.PrintLast Go.Proofs.YtkecppgodmbmlaaW.PrintMore Go.Proofs.Ytkecppgodmbmlaa.CD Go.Proofs.Ytkecppgodmbmlaa.BR
set_option linter.unusedVariables false
set_option linter.unusedSimpArgs false
theorem TK.below {w w' : World} {v : Value} {T : List Pr} (h : TK w v T) (hb : Below w.heap.size w w') : TK w' v T := by
  obtain ⟨A, c, e1, e2, e3⟩ := h
  exact ⟨A, c, e1, e2, Kd.C_below e3 hb⟩
end Go.Proofs.Ytkecppgodmbmlaa.PK

namespace Go.Proofs.Ytkecppgodmbmlaa.PK
open Go.RowKit Go.Proofs.YtkecppgodmbmlaaW.PrintWords Go.Proofs.YtkecppgodmbmlaaW.PrintLast Go.Proofs.YtkecppgodmbmlaaW.PrintMore Go.Proofs.Ytkecppgodmbmlaa.CD Go.Proofs.Ytkecppgodmbmlaa.BR
attribute [local go_sem] max2_int min2_int max_two min_two max_three min_three max_four min_four
set_option linter.unusedVariables false
set_option linter.unusedSimpArgs false
def putL (C L T : List Pr) : List Int := if mayB C L T then packB C L T else []
def putE (C L T : List Pr) : Int := if mayB C L T then 0 else 2
theorem rput_both (g : Nat) (C L T : List Pr) (v : Value) (w : World) (h : Chunk w g C L v) (hT : TK w v T) (hC : U8 C) (hL : U8 L) (hlT : T.length ≤ 1000000) :
    Calls Try.prog 13 #[.pointer (some ⟨g, 0, none⟩)] w fun e w' => ∃ v, e = .returned (.tuple #[v, .int .i64 (putE C L T)]) ∧ OB w' w.heap.size v (putL C L T) ∧ Below w.heap.size w w' := by
  obtain ⟨A, c, rfl, hc, hk⟩ := hT
  unfold putL putE
  cases hm : mayB C L T with
  | true => exact rput_calls g C L T A c w h hk hC hL hlT hm
  | false => exact (rput_no g C L T A c w h hk hC hL (by omega) hm).mono fun e w' ⟨he, hb⟩ => ⟨_, he, own_nil _ _ _ _, hb⟩
end Go.Proofs.Ytkecppgodmbmlaa.PK
