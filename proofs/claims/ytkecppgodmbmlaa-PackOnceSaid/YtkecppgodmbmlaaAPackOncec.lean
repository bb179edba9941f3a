/- The own texts that the statement PackOnce leans on: PkGet, PkOnce. -/
import Derived.Test.YtkecppgodmbmlaaAPackOnce
import Derived.Test.YtkecppgodmbmlaaAPackOnceb
import Derived.Test.YtkecppgodmbmlaaPPackBackx1
import Derived.ScopeJumps
import Derived.Deep.DeepCutAuto
import Derived.Outline
namespace Go.Proofs.Ytkecppgodmbmlaa.PK
open Go.RowKit Go.Proofs.YtkecppgodmbmlaaW.PrintWords Go.Proofs.YtkecppgodmbmlaaW.PrintLast Go.Proofs.YtkecppgodmbmlaaW.PrintMore Go.Proofs.Ytkecppgodmbmlaa.CD Go.Proofs.Ytkecppgodmbmlaa.BR
attribute [local go_sem] max2_int min2_int max_two min_two max_three min_three max_four min_four
set_option linter.unusedVariables false
set_option linter.unusedSimpArgs false
/-- What Get answers. -/
def GetsC (b : List Int) (w : World) (e : Ending) (w' : World) : Prop :=
  ((e = .returned (.tuple #[.pointer none, .int .i64 4]) ∧ ∀ C L T, ¬ Pk b C L T) ∨ ∃ C L T v, e = .returned (.tuple #[.pointer (some ⟨w.heap.size, 0, none⟩), .int .i64 0]) ∧ Chunk w' w.heap.size C L v ∧ TK w' v T ∧ Pk b C L T) ∧ Below w.heap.size w w'
/-- What holds at each way to the end that says no. -/
def Fails (b : List Int) (w : World) (a : Act) (W : World) : Prop := a.tmps.size = 171 ∧ a.defers = [] ∧ (∀ C L T, ¬ Pk b C L T) ∧ Below w.heap.size w W
theorem hr1 (b : List Int) (hb : Bytes b) (i : Nat) : 0 ≤ b.getD i 0 ∧ b.getD i 0 < 256 := by
  rw [List.getD_eq_getElem?_getD]
  cases h : b[i]? with
  | none => exact ⟨Int.le_refl _, by decide⟩
  | some x => exact hb x (List.mem_of_getElem? h)
theorem bytes_of_row (l : List Int) (h : Bytes (RU.row l)) : Bytes l := fun x hx => by
  rw [← RU.flat_runs l] at hx
  unfold RU.flat at hx
  obtain ⟨p, hp, hx⟩ := List.mem_flatMap.1 hx
  obtain ⟨_, rfl⟩ := List.mem_replicate.1 hx
  exact h _ (by unfold RU.row RU.rBytes; exact List.mem_flatMap.2 ⟨p, hp, by simp⟩)
theorem rNum_lt (X : List Int) (br : Bool) (hX : Bytes X) : (rNum (X, br)).1 < 18446744073709551616 := by
  unfold rNum
  cases br with
  | true => exact (by decide : (0 : Nat) < 18446744073709551616)
  | false =>
    simp only [Bool.false_eq_true, if_false]
    split
    · exact (by decide : (0 : Nat) < 18446744073709551616)
    · rename_i h
      exact (dec_back X hX _ _ rfl h).1
theorem w64n (n : Nat) (h : n < 9223372036854775808) : wrap64 (n : Int) = (n : Int) := by unfold wrap64; omega
theorem and15 (y : Nat) (h : y < 256) : bits .and .u8 (y : Int) 15 = (y : Int) % 16 := by
  have : ∀ y < 256, bits .and .u8 ((y : Nat) : Int) 15 = ((y : Nat) : Int) % 16 := by decide +kernel
  exact this y h
theorem half_set (f : Int → Pr) (xs : List Int) (hl : xs.length = 4096) (i : Nat) (hi : i < 4096) : ((xs.take i).map f ++ List.replicate (4096 - i) P0).set i (f (xs.getD i 0)) = (xs.take (i + 1)).map f ++ List.replicate (4096 - (i + 1)) P0 := by
  have h1 : ((xs.take i).map f).length = i := by rw [List.length_map, List.length_take]; omega
  rw [List.set_append_right _ _ (by omega), h1, Nat.sub_self, show 4096 - i = (4096 - (i + 1)) + 1 by omega, List.replicate_succ, List.set_cons_zero, List.take_add_one, List.map_append, List.append_assoc, List.getElem?_eq_getElem (by omega), List.getD_eq_getElem?_getD, List.getElem?_eq_getElem (by omega)]
  rfl
def halfC (b cs : List Int) (i : Nat) : List Pr := (cs.take i).map (palAt b) ++ List.replicate (4096 - i) P0
def halfL (ls : List Int) (i : Nat) : List Pr := (ls.take i).map lightOf ++ List.replicate (4096 - i) P0
/-- What the loop over the cells keeps. -/
structure Lp (w wb W : World) (b cs ls : List Int) (i : Nat) : Prop where
  below : Below w.heap.size w W
  far : ∀ k, k ≠ w.heap.size → k < wb.heap.size → W.heap[k]? = wb.heap[k]?
  ch : Chunk W w.heap.size (halfC b cs i) (halfL ls i) (.slice none 0 0)
theorem Lp.cellOf {w wb W : World} {b cs ls : List Int} {i : Nat} (h : Lp w wb W b cs ls i) {p : Addr} {v : Value} (hp : p.block ≠ w.heap.size) (hc : wb.cell? p = some v) : W.cell? p = some v := by
  have hl := World.block_lt_of_cell? wb _ hc
  rw [← hc]
  unfold World.cell?
  rw [h.far p.block hp hl]
theorem infoTick' : (Try.prog.info? 48).map (fun i => (i.zero, i.size, i.bytes)) = some (some (.agg #[.int .i64 0, .int .i64 0]), 2, 16) := by kernel_rfl
/-- What the loop over the ticks keeps. -/
structure Tl (w W : World) (n8 rg : Nat) (b : List Int) (C L T : List Pr) (s : St) (v : Value) (many : Nat) (at_ : Int) : Prop where
  below : Below w.heap.size w W
  rdr : BQ.Rdr (fun k => n8 ≤ k ∧ k < rg) W rg s.1 s.2
  ch : Chunk W w.heap.size C L v
  tk : Kd.R kT 48 W w.heap.size (fun k => rg < k) v T
  ts : TS b T s.1 s.2 many at_
theorem Tl.under {w W W' : World} {n8 rg : Nat} {b : List Int} {C L T : List Pr} {s : St} {v : Value} {many : Nat} {at_ : Int} (h : Tl w W n8 rg b C L T s v many at_) (hb : Below W.heap.size W W') : Tl w W' n8 rg b C L T s v many at_ :=
  ⟨below_step h.below hb, h.rdr.below hb, h.ch.below hb h.ch.lt, Kd.R_below h.tk hb, h.ts⟩
theorem equal_calls (A B : Option Addr) (c d : Nat) (l m : List Int) (w : World) (hl : ReadsInt w .u8 A l.length l) (hc : l.length ≤ c) (hm : ReadsInt w .u8 B m.length m) (hd : m.length ≤ d) (hb1 : Bytes l) (hb2 : Bytes m) :
    Calls Try.prog 34 #[.slice A l.length c, .slice B m.length d] w fun e w' => e = .returned (.bool (decide (l = m))) ∧ Drawn0 w w' := by
  refine PPackBack.bytes_Equal.calls A c l B d m _ w (Kd.C_of_reads (d := (0 : Int)) (h1 := fun _ => rfl) hl) hc (Kd.C_of_reads (d := (0 : Int)) (h1 := fun _ => rfl) hm) hd ?_
  unfold PPackBack.bytes_Equal.f
  by_cases h : l = m
  · rw [h]; simp
  · rw [decide_eq_false h, BS.beq_not (fun e => h (BS.str_inj hb1 hb2 e))]
theorem pack_bytes {C L T : List Pr} (hC : U8 C) (hL : U8 L) (lC : C.length = 4096) (lL : L.length = 4096) (hm : mayB C L T = true) : Bytes (packB C L T) := by
  have hp : Pk (packB C L T) C L T := ⟨lC, lL, hC, hL, hm, rfl⟩
  have h1 := hp.pal
  rw [packB_parts]
  refine Bytes.mk ⟨by omega, by omega⟩ (Bytes.append ?_ (Bytes.append ?_ (Bytes.append ?_ (Bytes.append ?_ ?_))))
  · intro x hx
    obtain ⟨p, hp, hx⟩ := List.mem_flatMap.1 hx
    have := hC p ((codes_nodup C).2 p hp)
    simp only [List.mem_cons, List.not_mem_nil, or_false] at hx
    omega
  · refine RU.row_bytes _ (fun k hk => ?_) (by rw [codes_len, lC]; decide)
    have := (codes_mean C).2 k hk
    omega
  · refine RU.row_bytes _ (fun k hk => ?_) (by rw [List.length_map, lL]; decide)
    obtain ⟨p, hpl, rfl⟩ := List.mem_map.1 hk
    have := hp.mayL p hpl
    unfold lcode
    omega
  · exact num_bytes _ (by have := hp.few; omega)
  · have : ∀ (T : List Pr) (was : Int), -1 ≤ was → tOk was T = true → Bytes (tBytes was T) := by
      intro T
      induction T with
      | nil => exact fun _ _ _ => Bytes.nil
      | cons t r ih =>
        intro was hw h
        obtain ⟨⟨a, c⟩, ⟨d, e⟩, hr⟩ := tOk_cons h
        exact Bytes.append (num_bytes _ (by omega)) (Bytes.append (num_bytes _ (by omega)) (ih t.1 (by omega) hr))
    exact this T (-1) (by omega) (may_tick hm)
theorem own4096 {W : World} {base : Nat} {v : Value} {l : List Int} (h : OB W base v l) (hl : l.length = 4096) : ∃ g c, v = .slice (some ⟨g, 0, none⟩) 4096 c ∧ 4096 ≤ c ∧ base ≤ g ∧ g < W.heap.size ∧ ∀ j, j < 4096 → W.cell? ⟨g, j, none⟩ = some (.int .u8 (l.getD j 0)) := by
  obtain ⟨A, c, rfl, hc, _⟩ := OB.slice h
  obtain ⟨g, rfl, h1, h2⟩ := OB.form h (by rw [hl]; decide)
  refine ⟨g, c, by rw [hl], by omega, h1, h2, fun j hj => ?_⟩
  have := (OB.at_ h j (by omega)).1
  rw [rd, Int.toNat_natCast] at this
  exact this
set_option maxHeartbeats 4000000 in
set_option maxRecDepth 100000 in
theorem pget_calls (A : Option Addr) (c : Nat) (b : List Int) (w : World) (hr : ReadsInt w .u8 A b.length b) (hc : b.length ≤ c) (hb : Bytes b) (hs : b.length ≤ 140737488355328) :
    Calls Try.prog 18 #[.slice A b.length c] w (GetsC b w) := by
  have hbu := run_zero
  have hbo := run_box
  have hbd := run_build
  have HR := Lib.hid hr
  have HC := Lib.hid hc
  have HB := Lib.hid hb
  clear hr hc hb
  go_enter Try.func18, Try.ntmps18
  go_wp2
  refine wp_scope_jumps 0 (Fails b w) (fun _ _ => 0) rfl ?_ ?_
  case refine_2 =>
    rintro a w' ⟨ha, hd, hf, hbw⟩
    obtain ⟨ts, ds⟩ := a
    simp only at ha hd
    subst hd
    go_wp2
    simp only [Exit.jump]
    refine bodyPost_ret (v := .tuple #[.pointer none, .int .i64 4]) ?_ rfl ⟨.inl ⟨rfl, hf⟩, hbw⟩
    simp [results, Try.results18, go_sem, ha]
  by_cases h0 : b = []
  · have hF := Lib.hid (show ∀ C L T, ¬ Pk b C L T from fun C L T h => by
      obtain ⟨k, e, _⟩ := h.head
      rw [h0] at e
      cases e)
    subst h0
    go_wp2
    clear hbu hbo hbd
    go_step3
    exact ⟨rfl, rfl, rfl, hF.out, below_alloc (Below.refl _ _) _⟩
  · obtain ⟨k, hk⟩ : ∃ k : Nat, b.getD 0 0 = (k : Int) := by
      have h1 := hr1 b HB.out 0
      exact ⟨(b.getD 0 0).toNat, by omega⟩
    have hk8 : k < 256 := by
      have h1 := hr1 b HB.out 0
      omega
    have hlen : 0 < b.length := List.length_pos_iff.2 h0
    have HK := Lib.hid hk
    obtain ⟨ad, rfl, hcell⟩ := HR.out.2.2 hlen
    have hc0 := hcell 0 hlen
    rw [hk, Addr.add_zero'] at hc0
    have HQ0 := Lib.hid (fun W (h : Below w.heap.size w W) => Lib.Below.cellOf h hc0 (Nat.le_refl _))
    have HCELL := Lib.hid hcell
    have q0 := HQ0.out _ (below_alloc (Below.refl _ w) (.cells zero 46))
    have d0 := decide_eq_true (show (0 : Int) < (b.length : Int) by omega)
    have i0 : (0 : Int) < (b.length : Int) := by omega
    clear hc0 hcell h0 hk
    by_cases hk0 : k = 0
    · have hF := Lib.hid (show ∀ C L T, ¬ Pk b C L T from fun C L T h => by
        have := h.drop k HK.out
        omega)
      rw [hk0, Int.natCast_zero] at q0
      clear hk0 hk8
      go_wp2
      clear hbu hbo hbd
      go_step3
      exact ⟨rfl, rfl, rfl, hF.out, below_alloc (Below.refl _ _) _⟩
    · have e1 : ((k : Int) == 0) = false := by rw [beq_eq_false_iff_ne]; omega
      have e2 : decide ((k : Int) = 0) = false := decide_eq_false (by omega)
      have hk1 : 1 ≤ k := by omega
      clear hk0
      by_cases hk2 : b.length < 1 + 2 * k
      · have hF := Lib.hid (show ∀ C L T, ¬ Pk b C L T from fun C L T h => by
          have := h.drop k HK.out
          omega)
        have d1 := decide_eq_true (show (b.length : Int) < 1 + 2 * (k : Int) by omega)
        go_wp2
        clear hbu hbo hbd
        go_step3
        exact ⟨rfl, rfl, rfl, hF.out, below_alloc (Below.refl _ _) _⟩
      · have d1 := decide_eq_false (show ¬ (b.length : Int) < 1 + 2 * (k : Int) by omega)
        have hk3 : 1 + 2 * k ≤ b.length := by omega
        obtain ⟨at1, hat1⟩ : ∃ at1 : Nat, at1 = 1 + 2 * k := ⟨_, rfl⟩
        obtain ⟨A1, hcut1, hrd1, hA1⟩ := cutFrom (some ad) b c at1 (by omega) HC.out
        have hl1 : (b.drop at1).length = b.length - at1 := List.length_drop
        have hge := Lib.hid (fun W (h : Below w.heap.size w W) => (show Calls Try.prog 30 #[.slice A1 (b.length - at1) (c - at1), .int .i64 4096] W (RU.Gets (RU.getG 4097 4096 (b.drop at1) []) (b.length - at1) W) from by
          have := RU.rget_calls A1 (c - at1) 4096 (b.drop at1) W (hrd1 W (HR.out.below h)) (by rw [List.length_drop]; have := HC.out; omega) (HB.out.drop _) (by rw [List.length_drop]; omega) (by decide)
          rw [hl1] at this
          exact this))
        have w1 : IntKind.i64.wrap (1 + 2 * (k : Int)) = (at1 : Int) := by rw [i64_w]; unfold wrap64; omega
        have hw1 := Lib.hid w1
        have HAT1 := Lib.hid hat1
        have z1 : (1 : Int) + 2 * (k : Int) = (at1 : Int) := by omega
        have hat1l : at1 ≤ b.length := by omega
        clear hrd1 hA1 hl1 hat1 w1 hk2 hk3
        go_wp2_with fail
        refine (hge.out _ (below_alloc (Below.refl _ _) _)).mono ?_; rintro e wa ⟨hea, hba⟩
        have HBA := Lib.hid (below_step (below_alloc (Below.refl _ w) _) hba)
        have HCH := Lib.hid ((chunk_new w).below hba (chunk_new w).lt)
        rw [World.size_alloc] at hea
        clear hba hge hcut1 q0
        cases hG1 : RU.getG 4097 4096 (b.drop at1) [] with
        | none =>
          rw [hG1] at hea
          simp only at hea
          have hF := Lib.hid (show ∀ C L T, ¬ Pk b C L T from fun C L T h => by
            have h1 := h.drop k HK.out
            rw [← HAT1.out] at h1
            rw [h1.2.2.2.2, h.get1] at hG1
            cases hG1)
          subst hea
          clear hG1
          go_wp2
          clear hbu hbo hbd
          go_step3
          exact ⟨rfl, rfl, rfl, hF.out, HBA.out⟩
        | some q =>
          obtain ⟨cs, r1⟩ := q
          rw [hG1] at hea
          obtain ⟨v5, he5, ho5⟩ := hea
          subst he5
          obtain ⟨hcl, hdr⟩ := RU.getG_one 4096 (b.drop at1) cs r1 (HB.out.drop _) hG1
          have HP1 := Lib.hid (show ∀ C L T, Pk b C L T → cs = (codes C).2 ∧ r1 = tailL L T ∧ k = (codes C).1.length from fun C L T h => by
            have h1 := h.drop k HK.out
            rw [← HAT1.out] at h1
            rw [h1.2.2.2.2, h.get1] at hG1
            injection hG1 with hG1
            injection hG1 with e1 e2
            exact ⟨e1.symm, e2.symm, h1.2.2.2.1⟩)
          have hl := congrArg List.length hdr
          rw [List.length_drop, List.length_append] at hl
          obtain ⟨at2, hat2⟩ : ∃ at2 : Nat, at2 = b.length - r1.length := ⟨_, rfl⟩
          have hd2 : b.drop at2 = r1 := by
            have := congrArg (List.drop (RU.row cs).length) hdr
            rw [List.drop_drop, List.drop_left] at this
            rw [← this]
            congr 1
            omega
          have hr1l : r1.length = b.length - at2 := by omega
          have hat2l : at2 ≤ b.length := by omega
          obtain ⟨u1, hu1⟩ : ∃ u1 : Nat, at1 + u1 = at2 := ⟨at2 - at1, by omega⟩
          have eu1 : ((b.length - at1 : Nat) : Int) - (r1.length : Int) = (u1 : Int) := by omega
          rw [eu1]
          obtain ⟨g5, c5, rfl, hc5, hg5, hg5l, hq5⟩ := own4096 ho5 hcl
          have HQ5 := Lib.hid (fun W (h : Below wa.heap.size wa W) j (hj : j < 4096) => Lib.Below.cellOf h (hq5 j hj) (Nat.le_refl _))
          have HCL := Lib.hid hcl
          have HCB := Lib.hid (show Bytes cs from bytes_of_row cs (Bytes.left (by rw [← hdr]; exact HB.out.drop _)))
          have hrs := hd2
          obtain ⟨A2, hcut2, hrd2, hA2⟩ := cutFrom (some ad) b c at2 hat2l HC.out
          have hge := Lib.hid (fun W (h : Below w.heap.size w W) => (show Calls Try.prog 30 #[.slice A2 (b.length - at2) (c - at2), .int .i64 4096] W (RU.Gets (RU.getG 4097 4096 r1 []) (b.length - at2) W) from by
            have := RU.rget_calls A2 (c - at2) 4096 (b.drop at2) W (hrd2 W (HR.out.below h)) (by rw [List.length_drop]; have := HC.out; omega) (HB.out.drop _) (by rw [List.length_drop]; omega) (by decide)
            rw [hd2, hr1l] at this
            exact this))
          have z2 : (at1 : Int) + (u1 : Int) = (at2 : Int) := by omega
          have HR1 := Lib.hid hr1l
          have HU1 := Lib.hid hu1
          have HD2 := Lib.hid hd2
          clear hrd2 hA2 hat2 hd2 hrs hr1l hu1 hl hdr hq5 ho5 hG1 eu1 hcl hw1
          go_wp2_with fail
          refine (hge.out _ HBA.out).mono ?_; rintro e wb ⟨heb, hbb⟩
          have HBB := Lib.hid (below_step HBA.out hbb)
          have HCHb := Lib.hid (HCH.out.below hbb HCH.out.lt)
          have HQ5b := Lib.hid (fun j hj => HQ5.out wb hbb j hj)
          have hwab := hbb.size
          clear hbb hge hcut2 HCH HQ5
          cases hG2 : RU.getG 4097 4096 r1 [] with
          | none =>
            rw [hG2] at heb
            simp only at heb
            have hF := Lib.hid (show ∀ C L T, ¬ Pk b C L T from fun C L T h => by
              have h1 := HP1.out C L T h
              rw [h1.2.1, h.get2] at hG2
              cases hG2)
            subst heb
            clear hG2
            go_wp2
            clear hbu hbo hbd
            go_step3
            exact ⟨rfl, rfl, rfl, hF.out, HBB.out⟩
          | some q =>
            obtain ⟨ls, r2⟩ := q
            rw [hG2] at heb
            obtain ⟨v6, he6, ho6⟩ := heb
            subst he6
            have hr1b : Bytes r1 := by rw [← HD2.out]; exact HB.out.drop _
            obtain ⟨hll, hdr⟩ := RU.getG_one 4096 r1 ls r2 hr1b hG2
            have HP2 := Lib.hid (show ∀ C L T, Pk b C L T → (cs = (codes C).2 ∧ ls = L.map lcode ∧ r2 = tailT T) ∧ k = (codes C).1.length from fun C L T h => by
              have h1 := HP1.out C L T h
              rw [h1.2.1, h.get2] at hG2
              injection hG2 with hG2
              injection hG2 with e1 e2
              exact ⟨⟨h1.1, e1.symm, e2.symm⟩, h1.2.2⟩)
            have hl := congrArg List.length hdr
            rw [HR1.out, List.length_append] at hl
            obtain ⟨at3, hat3⟩ : ∃ at3 : Nat, at3 = b.length - r2.length := ⟨_, rfl⟩
            have hd3 : b.drop at3 = r2 := by
              have := congrArg (List.drop (RU.row ls).length) hdr
              rw [← HD2.out, List.drop_drop, List.drop_left] at this
              rw [← this]
              congr 1
              omega
            have hr2l : r2.length = b.length - at3 := by omega
            have hat3l : at3 ≤ b.length := by omega
            obtain ⟨u2, hu2⟩ : ∃ u2 : Nat, at2 + u2 = at3 := ⟨at3 - at2, by omega⟩
            have eu2 : ((b.length - at2 : Nat) : Int) - (r2.length : Int) = (u2 : Int) := by omega
            rw [eu2]
            obtain ⟨g6, c6, rfl, hc6, hg6, hg6l, hq6⟩ := own4096 ho6 hll
            have HQ6b := Lib.hid hq6
            have HLL := Lib.hid hll
            have HLB := Lib.hid (show Bytes ls from bytes_of_row ls (Bytes.left (by rw [← hdr]; exact hr1b)))
            have z3 : (at2 : Int) + (u2 : Int) = (at3 : Int) := by omega
            have HR2 := Lib.hid hr2l
            have HD3 := Lib.hid hd3
            have hg6n : w.heap.size < g6 := by have := HBA.out.size; have := HCHb.out.lt; omega
            clear hat3 hd3 hr2l hl hdr hq6 ho6 hG2 eu2 hll hr1b HP1 hu2 hbu hbo hbd
            go_wp2
            go_loopw [65] (fun iv W => ∃ i : Nat, i ≤ 4096 ∧ iv = .int .i64 (i : Int) ∧ Aside0 (Lp w wb W b cs ls i)) (fun iv _ => 4096 - (intOf iv).toNat)
            case atStart => exact ⟨0, by omega, rfl, ⟨⟨HBB.out, fun _ _ _ => rfl, HCHb.out⟩⟩⟩
            case round =>
              obtain ⟨i, hi, rfl, ⟨hlp⟩⟩ := hrel
              have HLP := Lib.hid hlp
              clear hlp
              by_cases hlt : i < 4096
              · have hd := decide_eq_true (show (i : Int) < 4096 by omega)
                have p1 : (0 ≤ (i : Int)) = True := eq_true (by omega)
                have p2 : ((i : Int) < 4096) = True := eq_true (by omega)
                obtain ⟨x, hx⟩ : ∃ x : Nat, cs.getD i 0 = (x : Int) := ⟨(cs.getD i 0).toNat, by have := hr1 cs HCB.out i; omega⟩
                have hx8 : x < 256 := by have := hr1 cs HCB.out i; omega
                have HX := Lib.hid hx
                have c5i := HLP.out.cellOf (p := ⟨g5, i, none⟩) (show g5 ≠ w.heap.size by omega) (HQ5b.out i hlt)
                rw [hx] at c5i
                clear hx
                by_cases hxk : x < k
                · have d5 := decide_eq_false (show ¬ (k : Int) ≤ (x : Int) by omega)
                  have hxb : 2 + 2 * x < b.length := by have := HAT1.out; omega
                  obtain ⟨x1, hx1⟩ : ∃ x1 : Nat, x1 = 1 + 2 * x := ⟨_, rfl⟩
                  obtain ⟨x2, hx2⟩ : ∃ x2 : Nat, x2 = 2 + 2 * x := ⟨_, rfl⟩
                  have s1 := Lib.Below.cellOf HLP.out.below (HCELL.out x1 (by omega)) (Nat.le_refl _)
                  have s2 := Lib.Below.cellOf HLP.out.below (HCELL.out x2 (by omega)) (Nat.le_refl _)
                  obtain ⟨b1, hb1⟩ : ∃ b1, b.getD x1 0 = b1 := ⟨_, rfl⟩
                  obtain ⟨b2, hb2⟩ : ∃ b2, b.getD x2 0 = b2 := ⟨_, rfl⟩
                  rw [hb1] at s1
                  rw [hb2] at s2
                  have HPA := Lib.hid (show palAt b (cs.getD i 0) = (b1, b2) by
                    rw [HX.out]
                    unfold palAt
                    rw [Int.toNat_natCast, ← hx1, ← hx2, hb1, hb2])
                  have f1 : IntKind.i64.wrap (2 * (x : Int)) = 2 * (x : Int) := by rw [i64_w]; unfold wrap64; omega
                  have f2 : IntKind.i64.wrap (1 + 2 * (x : Int)) = (x1 : Int) := by rw [i64_w]; unfold wrap64; omega
                  have f3 : IntKind.i64.wrap (2 + 2 * (x : Int)) = (x2 : Int) := by rw [i64_w]; unfold wrap64; omega
                  have f4 : (1 : Int) + 2 * (x : Int) = (x1 : Int) := by omega
                  have f5 : (2 : Int) + 2 * (x : Int) = (x2 : Int) := by omega
                  have p3 : (0 ≤ (x1 : Int)) = True := eq_true (by omega)
                  have p4 : ((x1 : Int) < (b.length : Int)) = True := eq_true (by omega)
                  have p5 : (0 ≤ (x2 : Int)) = True := eq_true (by omega)
                  have p6 : ((x2 : Int) < (b.length : Int)) = True := eq_true (by omega)
                  obtain ⟨c0, c1⟩ := HLP.out.ch.atC i hlt
                  have cf0 := HLP.out.ch.frz (i * 2)
                  have cf1 := HLP.out.ch.frz (i * 2 + 1)
                  have F1 := Lib.hid (HLP.out.ch.setC i hlt (b1, b2))
                  have f6 : wrap64 (x1 : Int) = (x1 : Int) := w64n _ (by omega)
                  have f7 : wrap64 (x2 : Int) = (x2 : Int) := w64n _ (by omega)
                  clear hb1 hb2 hx1 hx2 hxb
                  go_wp2_with fail
                  refine start_ (n := 19) (S := fun w' => w'.cell? (ad.add x1) = some (.int .u8 b1) ∧ w'.cell? (ad.add x2) = some (.int .u8 b2)) (ds := [18]) #[false, false, false, false, false, false, false, false, false, false, false, false, false, false, false, false, false, false, false] (by kernel_rfl) rfl rfl ⟨s1, s2⟩ (fun hHeld => ?_)
                  refine pure_ (i := 0) (N := some 76) (v := ?_) (a' := ?_) #[true, false, false, false, false, false, false, false, false, false, false, false, false, false, false, false, false, false, false] rfl rfl (by kernel_rfl) (fun _ _ _ h => h) (Or.inl ⟨by rfl, ?_⟩) ?_ ?_
                  rotate_left
                  · intro w'
                    go_simp
                    with_reducible rfl
                  rotate_left
                  · simp only [Act.put, List.setIfInBounds_toArray, List.set_cons_zero, List.set_cons_succ, i64_w, i32_w]
                    rfl
                  refine pure_ (i := 1) (N := some 77) (v := ?_) (a' := ?_) #[true, true, false, false, false, false, false, false, false, false, false, false, false, false, false, false, false, false, false] rfl rfl (by kernel_rfl) (fun _ _ _ h => h) (Or.inl ⟨by rfl, ?_⟩) ?_ ?_
                  rotate_left
                  · intro w'
                    go_simp
                    with_reducible rfl
                  rotate_left
                  · simp only [Act.put, List.setIfInBounds_toArray, List.set_cons_zero, List.set_cons_succ, i64_w, i32_w]
                    rfl
                  refine pure_ (i := 2) (N := some 78) (v := ?_) (a' := ?_) #[true, true, true, false, false, false, false, false, false, false, false, false, false, false, false, false, false, false, false] rfl rfl (by kernel_rfl) (fun _ _ _ h => h) (Or.inl ⟨by rfl, ?_⟩) ?_ ?_
                  rotate_left
                  · intro w'
                    go_simp
                    with_reducible rfl
                  rotate_left
                  · simp only [Act.put, List.setIfInBounds_toArray, List.set_cons_zero, List.set_cons_succ, i64_w, i32_w]
                    rfl
                  refine pure_ (i := 3) (N := some 79) (v := ?_) (a' := ?_) #[true, true, true, true, false, false, false, false, false, false, false, false, false, false, false, false, false, false, false] rfl rfl (by kernel_rfl) (fun _ _ _ h => h) (Or.inl ⟨by rfl, ?_⟩) ?_ ?_
                  rotate_left
                  · intro w'
                    go_simp
                    with_reducible rfl
                  rotate_left
                  · simp only [Act.put, List.setIfInBounds_toArray, List.set_cons_zero, List.set_cons_succ, i64_w, i32_w]
                    rfl
                  refine pure_ (i := 4) (N := some 80) (v := ?_) (a' := ?_) #[true, true, true, true, true, false, false, false, false, false, false, false, false, false, false, false, false, false, false] rfl rfl (by kernel_rfl) (fun _ _ _ h => h) (Or.inl ⟨by rfl, ?_⟩) ?_ ?_
                  rotate_left
                  · intro w'
                    go_simp
                    with_reducible rfl
                  rotate_left
                  · simp only [Act.put, List.setIfInBounds_toArray, List.set_cons_zero, List.set_cons_succ, i64_w, i32_w]
                    rfl
                  refine pure_ (i := 5) (N := some 81) (v := ?_) (a' := ?_) #[true, true, true, true, true, true, false, false, false, false, false, false, false, false, false, false, false, false, false] rfl rfl (by kernel_rfl) (fun _ _ _ h => h) (Or.inl ⟨by rfl, ?_⟩) ?_ ?_
                  rotate_left
                  · intro w'
                    go_simp
                    with_reducible rfl
                  rotate_left
                  · simp only [Act.put, List.setIfInBounds_toArray, List.set_cons_zero, List.set_cons_succ, i64_w, i32_w]
                    rfl
                  refine pure_ (i := 6) (N := some 82) (v := ?_) (a' := ?_) #[true, true, true, true, true, true, true, false, false, false, false, false, false, false, false, false, false, false, false] rfl rfl (by kernel_rfl) (fun _ _ _ h => h) (Or.inl ⟨by rfl, ?_⟩) ?_ ?_
                  rotate_left
                  · intro w'
                    go_simp
                    with_reducible rfl
                  rotate_left
                  · simp only [Act.put, List.setIfInBounds_toArray, List.set_cons_zero, List.set_cons_succ, i64_w, i32_w]
                    rfl
                  refine pure_ (i := 8) (N := some 84) (v := ?_) (a' := ?_) #[true, true, true, true, true, true, true, false, true, false, false, false, false, false, false, false, false, false, false] rfl rfl (by kernel_rfl) (fun _ _ _ h => h) (Or.inl ⟨by rfl, ?_⟩) ?_ ?_
                  rotate_left
                  · intro w'
                    go_simp
                    with_reducible rfl
                  rotate_left
                  · simp only [Act.put, List.setIfInBounds_toArray, List.set_cons_zero, List.set_cons_succ, i64_w, i32_w]
                    rfl
                  refine pure_ (i := 9) (N := some 85) (v := ?_) (a' := ?_) #[true, true, true, true, true, true, true, false, true, true, false, false, false, false, false, false, false, false, false] rfl rfl (by kernel_rfl) (fun _ _ _ h => h) (Or.inl ⟨by rfl, ?_⟩) ?_ ?_
                  rotate_left
                  · intro w'
                    go_simp
                    with_reducible rfl
                  rotate_left
                  · simp only [Act.put, List.setIfInBounds_toArray, List.set_cons_zero, List.set_cons_succ, i64_w, i32_w]
                    rfl
                  refine pure_ (i := 10) (N := some 86) (v := ?_) (a' := ?_) #[true, true, true, true, true, true, true, false, true, true, true, false, false, false, false, false, false, false, false] rfl rfl (by kernel_rfl) (fun _ _ _ h => h) (Or.inl ⟨by rfl, ?_⟩) ?_ ?_
                  rotate_left
                  · intro w'
                    go_simp
                    with_reducible rfl
                  rotate_left
                  · simp only [Act.put, List.setIfInBounds_toArray, List.set_cons_zero, List.set_cons_succ, i64_w, i32_w]
                    rfl
                  refine pure_ (i := 11) (N := some 87) (v := ?_) (a' := ?_) #[true, true, true, true, true, true, true, false, true, true, true, true, false, false, false, false, false, false, false] rfl rfl (by kernel_rfl) (fun _ _ _ h => h) (Or.inl ⟨by rfl, ?_⟩) ?_ ?_
                  rotate_left
                  · intro w'
                    go_simp
                    with_reducible rfl
                  rotate_left
                  · simp only [Act.put, List.setIfInBounds_toArray, List.set_cons_zero, List.set_cons_succ, i64_w, i32_w]
                    rfl
                  refine pure_ (i := 12) (N := some 88) (v := ?_) (a' := ?_) #[true, true, true, true, true, true, true, false, true, true, true, true, true, false, false, false, false, false, false] rfl rfl (by kernel_rfl) (fun _ _ _ h => h) (Or.inl ⟨by rfl, ?_⟩) ?_ ?_
                  rotate_left
                  · intro w'
                    go_simp
                    with_reducible rfl
                  rotate_left
                  · simp only [Act.put, List.setIfInBounds_toArray, List.set_cons_zero, List.set_cons_succ, i64_w, i32_w]
                    rfl
                  refine pure_ (i := 15) (N := some 91) (v := ?_) (a' := ?_) #[true, true, true, true, true, true, true, false, true, true, true, true, true, false, false, true, false, false, false] rfl rfl (by kernel_rfl) (fun _ _ _ h => h) (Or.inl ⟨by rfl, ?_⟩) ?_ ?_
                  rotate_left
                  · intro w'
                    go_simp
                    with_reducible rfl
                  rotate_left
                  · simp only [Act.put, List.setIfInBounds_toArray, List.set_cons_zero, List.set_cons_succ, i64_w, i32_w]
                    rfl
                  refine pure_ (i := 16) (N := some 92) (v := ?_) (a' := ?_) #[true, true, true, true, true, true, true, false, true, true, true, true, true, false, false, true, true, false, false] rfl rfl (by kernel_rfl) (fun _ _ _ h => h) (Or.inl ⟨by rfl, ?_⟩) ?_ ?_
                  rotate_left
                  · intro w'
                    go_simp
                    with_reducible rfl
                  rotate_left
                  · simp only [Act.put, List.setIfInBounds_toArray, List.set_cons_zero, List.set_cons_succ, i64_w, i32_w]
                    rfl
                  refine take_ (i := 7) (N := some 83) (v := ?_) (a' := ?_) #[true, true, true, true, true, true, true, true, true, true, true, true, true, false, false, true, true, false, false] rfl rfl (by kernel_rfl) (fun _ _ _ h => h) (Or.inl ⟨by rfl, ?_⟩) hHeld ?_ ?_
                  rotate_left
                  · rintro w' ⟨s0, s1⟩
                    go_simp
                    with_reducible rfl
                  rotate_left
                  · simp only [Act.put, List.setIfInBounds_toArray, List.set_cons_zero, List.set_cons_succ, i64_w, i32_w]
                    rfl
                  refine take_ (i := 13) (N := some 89) (v := ?_) (a' := ?_) #[true, true, true, true, true, true, true, true, true, true, true, true, true, true, false, true, true, false, false] rfl rfl (by kernel_rfl) (fun _ _ _ h => h) (Or.inl ⟨by rfl, ?_⟩) hHeld ?_ ?_
                  rotate_left
                  · rintro w' ⟨s0, s1⟩
                    go_simp
                    with_reducible rfl
                  rotate_left
                  · simp only [Act.put, List.setIfInBounds_toArray, List.set_cons_zero, List.set_cons_succ, i64_w, i32_w]
                    rfl
                  refine pure_ (i := 14) (N := some 90) (v := ?_) (a' := ?_) #[true, true, true, true, true, true, true, true, true, true, true, true, true, true, true, true, true, false, false] rfl rfl (by kernel_rfl) (fun _ _ _ h => h) (Or.inl ⟨by rfl, ?_⟩) ?_ ?_
                  rotate_left
                  · intro w'
                    go_simp
                    with_reducible rfl
                  rotate_left
                  · simp only [Act.put, List.setIfInBounds_toArray, List.set_cons_zero, List.set_cons_succ, i64_w, i32_w]
                    rfl
                  refine pure_ (i := 17) (N := some 93) (v := ?_) (a' := ?_) #[true, true, true, true, true, true, true, true, true, true, true, true, true, true, true, true, true, true, false] rfl rfl (by kernel_rfl) (fun _ _ _ h => h) (Or.inl ⟨by rfl, ?_⟩) ?_ ?_
                  rotate_left
                  · intro w'
                    go_simp
                    with_reducible rfl
                  rotate_left
                  · simp only [Act.put, List.setIfInBounds_toArray, List.set_cons_zero, List.set_cons_succ, i64_w, i32_w]
                    rfl
                  refine last_ (i := 18) (N := none) #[true, true, true, true, true, true, true, true, true, true, true, true, true, true, true, true, true, true, true] rfl rfl (by kernel_rfl) (by decide) (fun K hK => ?_)
                  refine skip_ (w1 := ?_) (by rfl) rfl ?_ ?_
                  rotate_left
                  · go_simp
                    rfl
                  refine hK.out _ _ ?_
                  clear hK K
                  refine done_ (by kernel_rfl) ?_
                  have F1b : Chunk ((wr.setCell ⟨w.heap.size, i * 2, none⟩ (.int .u8 b1)).setCell ⟨w.heap.size, i * 2 + 1, none⟩ (.int .u8 b2)).drew w.heap.size ((halfC b cs i).set i (b1, b2)) (halfL ls i) (.slice none 0 0) := F1.out.below (below_drew (Below.refl _ _)) F1.out.lt
                  have B1b : Below w.heap.size w ((wr.setCell ⟨w.heap.size, i * 2, none⟩ (.int .u8 b1)).setCell ⟨w.heap.size, i * 2 + 1, none⟩ (.int .u8 b2)).drew := below_drew (Below.setCell (Below.setCell HLP.out.below (Nat.le_refl _) _) (Nat.le_refl _) _)
                  have K1b : ∀ k, k ≠ w.heap.size → k < wb.heap.size → ((wr.setCell ⟨w.heap.size, i * 2, none⟩ (.int .u8 b1)).setCell ⟨w.heap.size, i * 2 + 1, none⟩ (.int .u8 b2)).drew.heap[k]? = wb.heap[k]? := fun k hk hl =>
                    (Below.heap_setCell _ ⟨w.heap.size, i * 2 + 1, none⟩ _ k hk).trans ((Below.heap_setCell wr ⟨w.heap.size, i * 2, none⟩ _ k hk).trans (HLP.out.far k hk hl))
                  generalize ((wr.setCell ⟨w.heap.size, i * 2, none⟩ (.int .u8 b1)).setCell ⟨w.heap.size, i * 2 + 1, none⟩ (.int .u8 b2)).drew = w6 at F1b B1b K1b ⊢
                  clear c0 c1 cf0 cf1 s1 s2 f1 f2 f3 f4 f5 f6 f7 p3 p4 p5 p6
                  obtain ⟨y, hy⟩ : ∃ y : Nat, ls.getD i 0 = (y : Int) := ⟨(ls.getD i 0).toNat, by have := hr1 ls HLB.out i; omega⟩
                  have hy8 : y < 256 := by have := hr1 ls HLB.out i; omega
                  have s1 : w6.cell? ⟨g6, i, none⟩ = some (.int .u8 (y : Int)) := by
                    have h6 := HQ6b.out i hlt
                    rw [hy] at h6
                    rw [← h6]
                    unfold World.cell?
                    rw [K1b g6 (by omega) (World.block_lt_of_cell? wb ⟨g6, i, none⟩ h6)]
                  have HY := Lib.hid hy
                  obtain ⟨c0, c1⟩ := F1b.atL i hlt
                  have cf0 := F1b.frz (8192 + i * 2)
                  have cf1 := F1b.frz (8192 + i * 2 + 1)
                  have F2 := Lib.hid (F1b.setL i hlt (lightOf (y : Int)))
                  have HB1b := Lib.hid B1b
                  have HK1b := Lib.hid K1b
                  clear F1b B1b K1b hy
                  go_wp2_with fail
                  have e15 := and15 y hy8
                  refine start_ (n := 17) (S := fun w' => w'.cell? ⟨g6, i, none⟩ = some (.int .u8 (y : Int))) (ds := [16]) #[false, false, false, false, false, false, false, false, false, false, false, false, false, false, false, false, false] (by kernel_rfl) rfl rfl (s1) (fun hHeld => ?_)
                  refine pure_ (i := 0) (N := some 94) (v := ?_) (a' := ?_) #[true, false, false, false, false, false, false, false, false, false, false, false, false, false, false, false, false] rfl rfl (by kernel_rfl) (fun _ _ _ h => h) (Or.inl ⟨by rfl, ?_⟩) ?_ ?_
                  rotate_left
                  · intro w'
                    go_simp
                    with_reducible rfl
                  rotate_left
                  · simp only [Act.put, List.setIfInBounds_toArray, List.set_cons_zero, List.set_cons_succ, i64_w, i32_w]
                    rfl
                  refine pure_ (i := 1) (N := some 95) (v := ?_) (a' := ?_) #[true, true, false, false, false, false, false, false, false, false, false, false, false, false, false, false, false] rfl rfl (by kernel_rfl) (fun _ _ _ h => h) (Or.inl ⟨by rfl, ?_⟩) ?_ ?_
                  rotate_left
                  · intro w'
                    go_simp
                    with_reducible rfl
                  rotate_left
                  · simp only [Act.put, List.setIfInBounds_toArray, List.set_cons_zero, List.set_cons_succ, i64_w, i32_w]
                    rfl
                  refine pure_ (i := 2) (N := some 96) (v := ?_) (a' := ?_) #[true, true, true, false, false, false, false, false, false, false, false, false, false, false, false, false, false] rfl rfl (by kernel_rfl) (fun _ _ _ h => h) (Or.inl ⟨by rfl, ?_⟩) ?_ ?_
                  rotate_left
                  · intro w'
                    go_simp
                    with_reducible rfl
                  rotate_left
                  · simp only [Act.put, List.setIfInBounds_toArray, List.set_cons_zero, List.set_cons_succ, i64_w, i32_w]
                    rfl
                  refine pure_ (i := 3) (N := some 97) (v := ?_) (a' := ?_) #[true, true, true, true, false, false, false, false, false, false, false, false, false, false, false, false, false] rfl rfl (by kernel_rfl) (fun _ _ _ h => h) (Or.inl ⟨by rfl, ?_⟩) ?_ ?_
                  rotate_left
                  · intro w'
                    go_simp
                    with_reducible rfl
                  rotate_left
                  · simp only [Act.put, List.setIfInBounds_toArray, List.set_cons_zero, List.set_cons_succ, i64_w, i32_w]
                    rfl
                  refine pure_ (i := 4) (N := some 98) (v := ?_) (a' := ?_) #[true, true, true, true, true, false, false, false, false, false, false, false, false, false, false, false, false] rfl rfl (by kernel_rfl) (fun _ _ _ h => h) (Or.inl ⟨by rfl, ?_⟩) ?_ ?_
                  rotate_left
                  · intro w'
                    go_simp
                    with_reducible rfl
                  rotate_left
                  · simp only [Act.put, List.setIfInBounds_toArray, List.set_cons_zero, List.set_cons_succ, i64_w, i32_w]
                    rfl
                  refine pure_ (i := 7) (N := some 101) (v := ?_) (a' := ?_) #[true, true, true, true, true, false, false, true, false, false, false, false, false, false, false, false, false] rfl rfl (by kernel_rfl) (fun _ _ _ h => h) (Or.inl ⟨by rfl, ?_⟩) ?_ ?_
                  rotate_left
                  · intro w'
                    go_simp
                    with_reducible rfl
                  rotate_left
                  · simp only [Act.put, List.setIfInBounds_toArray, List.set_cons_zero, List.set_cons_succ, i64_w, i32_w]
                    rfl
                  refine pure_ (i := 8) (N := some 102) (v := ?_) (a' := ?_) #[true, true, true, true, true, false, false, true, true, false, false, false, false, false, false, false, false] rfl rfl (by kernel_rfl) (fun _ _ _ h => h) (Or.inl ⟨by rfl, ?_⟩) ?_ ?_
                  rotate_left
                  · intro w'
                    go_simp
                    with_reducible rfl
                  rotate_left
                  · simp only [Act.put, List.setIfInBounds_toArray, List.set_cons_zero, List.set_cons_succ, i64_w, i32_w]
                    rfl
                  refine pure_ (i := 9) (N := some 103) (v := ?_) (a' := ?_) #[true, true, true, true, true, false, false, true, true, true, false, false, false, false, false, false, false] rfl rfl (by kernel_rfl) (fun _ _ _ h => h) (Or.inl ⟨by rfl, ?_⟩) ?_ ?_
                  rotate_left
                  · intro w'
                    go_simp
                    with_reducible rfl
                  rotate_left
                  · simp only [Act.put, List.setIfInBounds_toArray, List.set_cons_zero, List.set_cons_succ, i64_w, i32_w]
                    rfl
                  refine pure_ (i := 13) (N := some 107) (v := ?_) (a' := ?_) #[true, true, true, true, true, false, false, true, true, true, false, false, false, true, false, false, false] rfl rfl (by kernel_rfl) (fun _ _ _ h => h) (Or.inl ⟨by rfl, ?_⟩) ?_ ?_
                  rotate_left
                  · intro w'
                    go_simp
                    with_reducible rfl
                  rotate_left
                  · simp only [Act.put, List.setIfInBounds_toArray, List.set_cons_zero, List.set_cons_succ, i64_w, i32_w]
                    rfl
                  refine pure_ (i := 14) (N := some 108) (v := ?_) (a' := ?_) #[true, true, true, true, true, false, false, true, true, true, false, false, false, true, true, false, false] rfl rfl (by kernel_rfl) (fun _ _ _ h => h) (Or.inl ⟨by rfl, ?_⟩) ?_ ?_
                  rotate_left
                  · intro w'
                    go_simp
                    with_reducible rfl
                  rotate_left
                  · simp only [Act.put, List.setIfInBounds_toArray, List.set_cons_zero, List.set_cons_succ, i64_w, i32_w]
                    rfl
                  refine take_ (i := 5) (N := some 99) (v := ?_) (a' := ?_) #[true, true, true, true, true, true, false, true, true, true, false, false, false, true, true, false, false] rfl rfl (by kernel_rfl) (fun _ _ _ h => h) (Or.inl ⟨by rfl, ?_⟩) hHeld ?_ ?_
                  rotate_left
                  · intro w' s0
                    go_simp
                    with_reducible rfl
                  rotate_left
                  · simp only [Act.put, List.setIfInBounds_toArray, List.set_cons_zero, List.set_cons_succ, i64_w, i32_w]
                    rfl
                  refine pure_ (i := 6) (N := some 100) (v := ?_) (a' := ?_) #[true, true, true, true, true, true, true, true, true, true, false, false, false, true, true, false, false] rfl rfl (by kernel_rfl) (fun _ _ _ h => h) (Or.inl ⟨by rfl, ?_⟩) ?_ ?_
                  rotate_left
                  · intro w'
                    go_simp
                    with_reducible rfl
                  rotate_left
                  · simp only [Act.put, List.setIfInBounds_toArray, List.set_cons_zero, List.set_cons_succ, i64_w, i32_w]
                    rfl
                  refine take_ (i := 10) (N := some 104) (v := ?_) (a' := ?_) #[true, true, true, true, true, true, true, true, true, true, true, false, false, true, true, false, false] rfl rfl (by kernel_rfl) (fun _ _ _ h => h) (Or.inl ⟨by rfl, ?_⟩) hHeld ?_ ?_
                  rotate_left
                  · intro w' s0
                    go_simp
                    with_reducible rfl
                  rotate_left
                  · simp only [Act.put, List.setIfInBounds_toArray, List.set_cons_zero, List.set_cons_succ, i64_w, i32_w]
                    rfl
                  refine pure_ (i := 11) (N := some 105) (v := ?_) (a' := ?_) #[true, true, true, true, true, true, true, true, true, true, true, true, false, true, true, false, false] rfl rfl (by kernel_rfl) (fun _ _ _ h => h) (Or.inl ⟨by rfl, ?_⟩) ?_ ?_
                  rotate_left
                  · intro w'
                    go_simp
                    with_reducible rfl
                  rotate_left
                  · simp only [Act.put, List.setIfInBounds_toArray, List.set_cons_zero, List.set_cons_succ, i64_w, i32_w]
                    rfl
                  refine pure_ (i := 12) (N := some 106) (v := ?_) (a' := ?_) #[true, true, true, true, true, true, true, true, true, true, true, true, true, true, true, false, false] rfl rfl (by kernel_rfl) (fun _ _ _ h => h) (Or.inl ⟨by rfl, ?_⟩) ?_ ?_
                  rotate_left
                  · intro w'
                    go_simp
                    with_reducible rfl
                  rotate_left
                  · simp only [Act.put, List.setIfInBounds_toArray, List.set_cons_zero, List.set_cons_succ, i64_w, i32_w]
                    rfl
                  refine pure_ (i := 15) (N := some 109) (v := ?_) (a' := ?_) #[true, true, true, true, true, true, true, true, true, true, true, true, true, true, true, true, false] rfl rfl (by kernel_rfl) (fun _ _ _ h => h) (Or.inl ⟨by rfl, ?_⟩) ?_ ?_
                  rotate_left
                  · intro w'
                    go_simp
                    with_reducible rfl
                  rotate_left
                  · simp only [Act.put, List.setIfInBounds_toArray, List.set_cons_zero, List.set_cons_succ, i64_w, i32_w]
                    rfl
                  refine last_ (i := 16) (N := none) #[true, true, true, true, true, true, true, true, true, true, true, true, true, true, true, true, true] rfl rfl (by kernel_rfl) (by decide) (fun K hK => ?_)
                  refine skip_ (w1 := ?_) (by rfl) rfl ?_ ?_
                  rotate_left
                  · go_simp
                    rfl
                  refine hK.out _ _ ?_
                  clear hK K
                  refine done_ (by kernel_rfl) ?_
                  have F2b : Chunk ((w6.setCell ⟨w.heap.size, 8192 + i * 2, none⟩ (.int .u8 ((y : Int) / 16))).setCell ⟨w.heap.size, 8192 + i * 2 + 1, none⟩ (.int .u8 ((y : Int) % 16))).drew w.heap.size (halfC b cs (i + 1)) (halfL ls (i + 1)) (.slice none 0 0) := by
                    have h := F2.out.below (below_drew (Below.refl _ _)) F2.out.lt
                    have h1 := half_set (palAt b) cs HCL.out i hlt
                    have h2 := half_set lightOf ls HLL.out i hlt
                    rw [HPA.out] at h1
                    rw [HY.out] at h2
                    unfold halfC halfL at h ⊢
                    rw [h1, h2] at h
                    exact h
                  have B2b : Below w.heap.size w ((w6.setCell ⟨w.heap.size, 8192 + i * 2, none⟩ (.int .u8 ((y : Int) / 16))).setCell ⟨w.heap.size, 8192 + i * 2 + 1, none⟩ (.int .u8 ((y : Int) % 16))).drew := below_drew (Below.setCell (Below.setCell HB1b.out (Nat.le_refl _) _) (Nat.le_refl _) _)
                  have K2b : ∀ k, k ≠ w.heap.size → k < wb.heap.size → ((w6.setCell ⟨w.heap.size, 8192 + i * 2, none⟩ (.int .u8 ((y : Int) / 16))).setCell ⟨w.heap.size, 8192 + i * 2 + 1, none⟩ (.int .u8 ((y : Int) % 16))).drew.heap[k]? = wb.heap[k]? := fun k hk hl =>
                    (Below.heap_setCell _ ⟨w.heap.size, 8192 + i * 2 + 1, none⟩ _ k hk).trans ((Below.heap_setCell w6 ⟨w.heap.size, 8192 + i * 2, none⟩ _ k hk).trans (HK1b.out k hk hl))
                  generalize ((w6.setCell ⟨w.heap.size, 8192 + i * 2, none⟩ (.int .u8 ((y : Int) / 16))).setCell ⟨w.heap.size, 8192 + i * 2 + 1, none⟩ (.int .u8 ((y : Int) % 16))).drew = w7 at F2b B2b K2b ⊢
                  have HG := Lib.hid (⟨B2b, K2b, F2b⟩ : Lp w wb w7 b cs ls (i + 1))
                  clear F2b B2b K2b c0 c1 cf0 cf1 s1 e15 F1 F2
                  go_wp2
                  go_roundw
                  case rel => exact ⟨i + 1, by omega, by go_num, ⟨HG.out⟩⟩
                  case measure => simp [intOf]; omega
                · have d5 := decide_eq_true (show (k : Int) ≤ (x : Int) by omega)
                  have hF := Lib.hid (show ∀ C L T, ¬ Pk b C L T from fun C L T h => by
                    obtain ⟨⟨h1, _⟩, h2⟩ := HP2.out C L T h
                    have hm : (cs.getD i 0) ∈ cs := by
                      rw [List.getD_eq_getElem?_getD, List.getElem?_eq_getElem (by rw [HCL.out]; exact hlt)]
                      exact List.getElem_mem _
                    rw [HX.out, h1] at hm
                    have := h.below _ hm
                    omega)
                  go_wp2
                  go_step3
                  exact ⟨rfl, rfl, rfl, hF.out, HLP.out.below⟩
              · obtain rfl : i = 4096 := by omega
                have hC : halfC b cs 4096 = cs.map (palAt b) := by
                  unfold halfC
                  rw [List.take_of_length_le (by rw [HCL.out]; exact Nat.le_refl _), Nat.sub_self]
                  simp
                have hL : halfL ls 4096 = ls.map lightOf := by
                  unfold halfL
                  rw [List.take_of_length_le (by rw [HLL.out]; exact Nat.le_refl _), Nat.sub_self]
                  simp
                have hch := HLP.out.ch
                rw [hC, hL] at hch
                have HCH := Lib.hid hch
                have HBR := Lib.hid HLP.out.below
                obtain ⟨Cf, hCf⟩ : ∃ Cf, cs.map (palAt b) = Cf := ⟨_, rfl⟩
                obtain ⟨Lf, hLf⟩ : ∃ Lf, ls.map lightOf = Lf := ⟨_, rfl⟩
                rw [hCf, hLf] at HCH
                have HP3 := Lib.hid (show ∀ C L T, Pk b C L T → C = Cf ∧ L = Lf ∧ r2 = tailT T from fun C L T h => by
                  obtain ⟨⟨h1, h2, h3⟩, _⟩ := HP2.out C L T h
                  exact ⟨by rw [← hCf, h1, h.cells], by rw [← hLf, h2, h.light], h3⟩)
                have HUC := Lib.hid (show U8 Cf from fun p hp => by
                  rw [← hCf] at hp
                  obtain ⟨x, _, rfl⟩ := List.mem_map.1 hp
                  exact ⟨hr1 b HB.out _, hr1 b HB.out _⟩)
                have HUL := Lib.hid (show U8 Lf from fun p hp => by
                  rw [← hLf] at hp
                  obtain ⟨x, hx, rfl⟩ := List.mem_map.1 hp
                  have := HLB.out x hx
                  unfold lightOf
                  simp only
                  omega)
                clear hC hL hch hCf hLf HLP HP2
                obtain ⟨A3, hcut3, hrd3, hA3⟩ := cutFrom (some ad) b c at3 hat3l HC.out
                have hne := Lib.hid (fun W (h : Below w.heap.size w W) => (show Calls Try.prog 31 #[.slice A3 (b.length - at3) (c - at3)] W fun e w' => ∃ g, e = .returned (.pointer (some ⟨g, 0, none⟩)) ∧ W.heap.size ≤ g ∧ BQ.Rdr (fun k => W.heap.size ≤ k ∧ k < g) w' g r2 false ∧ Below W.heap.size W w' from by
                  have := BQ.new_calls A3 (c - at3) (b.drop at3) W (hrd3 W (HR.out.below h)) (by rw [List.length_drop]; have := HC.out; omega) (HB.out.drop _) (by rw [List.length_drop]; omega)
                  rw [HD3.out, HR2.out] at this
                  exact this))
                clear hrd3 hA3 d0 i0 e1 e2 hlen
                go_wp2_with fail
                refine (hne.out _ HBR.out).mono ?_; rintro e w9 ⟨rg, rfl, hrg, hrd, hb9⟩
                have HB9 := Lib.hid (below_step HBR.out hb9)
                have HC9 := Lib.hid (HCH.out.below hb9 HCH.out.lt)
                have HRD := Lib.hid hrd
                have hrgl : rg < w9.heap.size := hrd.lt
                have hrg1 : w.heap.size < rg := by have := HCH.out.lt; omega
                have hNum := Lib.hid (BQ.num_calls rg r2 false w9 hrd)
                have hr9 := hr1
                obtain ⟨n8, hn8⟩ : ∃ n8, wr.heap.size = n8 := ⟨_, rfl⟩
                have hn8l : w.heap.size < n8 := by have := HCH.out.lt; omega
                rw [hn8] at HRD hNum hrg
                have HTS := Lib.hid (TS.start (b := b) (X := r2) (fun C L T h => (HP3.out C L T h).2.2))
                have hnr := rNum_lt r2 false (show Bytes r2 from by rw [← HD3.out]; exact HB.out.drop _)
                obtain ⟨⟨m0, s0⟩, hms⟩ : ∃ q, rNum (r2, false) = q := ⟨_, rfl⟩
                rw [hms] at hNum HTS hnr
                simp only at hNum HTS hnr
                clear hcut3 hne hb9 hrd hms hn8 HCH HCHb HQ5b HQ6b hg5 hg5l hg6 hg6l hg6n hc5 hc6 hwab hi z1 z2 z3 hat1l hat2l hat3l hk8 hk1 d1 hr9
                go_wp2_with fail
                refine hNum.out.mono ?_; rintro e w10 ⟨rfl, hrd, hg⟩
                have HT0 := Lib.hid (⟨belowg HB9.out hg HB9.out.size (by omega), hrd, HC9.out.grown hg (by simp; omega), Kd.R_nil _ _ _ _ _, HTS.out⟩ : Tl w w10 n8 rg b Cf Lf [] s0 (.slice none 0 0) m0 (-1))
                clear hrd hg hNum HB9 HC9 HRD HTS hrgl
                go_wp2_with fail
                obtain ⟨w8, hw8⟩ : ∃ w8, w8 = wr := ⟨_, rfl⟩
                go_loopw [10, 11] (fun av mv W => ∃ (T : List Pr) (at_ : Int) (m : Nat) (s : St) (v : Value), av = .int .i64 at_ ∧ mv = .int .u64 (m : Int) ∧ m < 18446744073709551616 ∧ (-1 ≤ at_ ∧ at_ ≤ 4097 * (T.length : Int)) ∧ T.length ≤ 4097 ∧ Aside0 (Tl w W n8 rg b Cf Lf T s v m at_)) (fun _ mv _ => (intOf mv).toNat)
                case atStart => exact ⟨[], -1, m0, s0, _, rfl, rfl, hnr, by simp, by simp, ⟨HT0.out⟩⟩
                case round =>
                  obtain ⟨T, at_, m, s, v, rfl, rfl, hm64, hatb, hTl, ⟨htl⟩⟩ := hrel
                  have HL := Lib.hid htl
                  clear htl
                  by_cases hm : 0 < m
                  · have d2 := decide_eq_true (show (0 : Int) < (m : Int) by omega)
                    have d2' := decide_eq_true (show 0 < m by omega)
                    have HE := Lib.hid (BQ.err_calls rg s.1 s.2 wr HL.out.rdr)
                    cases hs2 : s.2 with
                    | true =>
                      rw [hs2] at HE
                      have HST := Lib.hid (HL.out.ts.stop (.inr (.inl hs2)))
                      clear hs2
                      go_wp2_with fail
                      refine HE.out.mono ?_; rintro e w11 ⟨rfl, ⟨nd, rfl⟩⟩
                      have HL2 := Lib.hid (HL.out.under (pw_below_drewN (Below.refl _ _) nd))
                      clear HL
                      obtain ⟨A9, c9, hv9, hc9, hC9⟩ := Kd.R_reads HL2.out.tk
                      first | subst hv9 | (have hv8 := hv9.symm; simp only [Value.slice.injEq, true_and] at hv8; obtain ⟨hv6, hv7⟩ := hv8; subst hv6 hv7; clear hv9)
                      have hFs := Lib.hid (show ∀ C L T', Pk b C L T' → C = Cf ∧ L = Lf ∧ T' = T from fun C L T' h => ⟨(HP3.out C L T' h).1, (HP3.out C L T' h).2.1, HST.out C L T' h⟩)
                      have hlen9 : T.length ≤ 1000000 := by omega
                      cases hm0 : mayB Cf Lf T with
                      | false =>
                        have hput := Lib.hid (pput_no _ _ _ _ A9 c9 _ HL2.out.ch hC9 HUC.out HUL.out (by omega) hm0)
                        have hF := Lib.hid (show ∀ C L T', ¬ Pk b C L T' from fun C L T' h => by
                          obtain ⟨rfl, rfl, rfl⟩ := hFs.out C L T' h
                          rw [h.may] at hm0
                          cases hm0)
                        clear hm0 hC9 hc9
                        go_wp2_with fail
                        refine hput.out.mono ?_; rintro e wp ⟨rfl, hbp⟩
                        have HBP := Lib.hid (below_step HL2.out.below hbp)
                        clear hbp hput
                        go_wp2
                        go_step3
                        go_wp2
                        simp only [Exit.jump]
                        go_ret2
                        exact ⟨.inl ⟨rfl, hF.out⟩, HBP.out⟩
                      | true =>
                        have hput := Lib.hid (pput_calls _ _ _ _ A9 c9 _ HL2.out.ch hC9 HUC.out HUL.out hlen9 hm0)
                        have hPB := Lib.hid (pack_bytes HUC.out HUL.out HL2.out.ch.lenC HL2.out.ch.lenL hm0)
                        have HM0 := Lib.hid hm0
                        have HTK := Lib.hid (show TK _ (.slice A9 T.length c9) T from ⟨A9, c9, rfl, hc9, hC9⟩)
                        clear hm0 hC9 hc9
                        go_wp2_with fail
                        refine hput.out.mono ?_; rintro e wp ⟨vp, rfl, hop, hbp⟩
                        obtain ⟨Ap, cp, rfl, hcp, hrp⟩ := OB.slice hop
                        have HLp := Lib.hid (HL2.out.under hbp)
                        have HTKp := Lib.hid (show TK wp (.slice A9 T.length c9) T from by
                          obtain ⟨A, c, e1, e2, e3⟩ := HTK.out
                          exact ⟨A, c, e1, e2, Kd.C_below e3 hbp⟩)
                        have heq := Lib.hid (equal_calls Ap (some ad) cp c (packB Cf Lf T) b wp hrp hcp (HR.out.below HLp.out.below) HC.out hPB.out HB.out)
                        clear hop hcp hrp hbp hput
                        go_wp2_with fail
                        refine heq.out.mono ?_; rintro e wq ⟨rfl, ⟨nq, rfl⟩⟩
                        by_cases hpb : packB Cf Lf T = b
                        · have hd9 : decide (packB Cf Lf T = b) = true := decide_eq_true hpb
                          have HPK := Lib.hid (⟨HLp.out.ch.lenC, HLp.out.ch.lenL, HUC.out, HUL.out, HM0.out, hpb⟩ : Pk b Cf Lf T)
                          clear hpb
                          go_wp2
                          simp only [Exit.jump]
                          go_ret2
                          exact ⟨.inr ⟨Cf, Lf, T, _, rfl, HLp.out.ch.below (pw_below_drewN (Below.refl _ _) _) HLp.out.ch.lt, (by
                            obtain ⟨A, c, e1, e2, e3⟩ := HTKp.out
                            exact ⟨A, c, e1, e2, Kd.C_below e3 (pw_below_drewN (Below.refl _ _) _)⟩), HPK.out⟩, pw_below_drewN HLp.out.below _⟩
                        · have hd9 : decide (packB Cf Lf T = b) = false := decide_eq_false hpb
                          have hF := Lib.hid (show ∀ C L T', ¬ Pk b C L T' from fun C L T' h => by
                            obtain ⟨rfl, rfl, rfl⟩ := hFs.out C L T' h
                            exact hpb h.eq)
                          clear hpb
                          go_wp2
                          go_step3
                          go_wp2
                          simp only [Exit.jump]
                          go_ret2
                          exact ⟨.inl ⟨rfl, hF.out⟩, pw_below_drewN HLp.out.below _⟩
                    | false =>
                      rw [hs2] at HE
                      have Hs2 := Lib.hid hs2
                      clear hs2
                      obtain ⟨A7, c7, rfl, hc7, hC7⟩ := Kd.R_reads HL.out.tk
                      clear hC7
                      go_wp2_with fail
                      refine HE.out.mono ?_; rintro e w11 ⟨rfl, ⟨nd, rfl⟩⟩
                      have HL2 := Lib.hid (HL.out.under (pw_below_drewN (Below.refl _ _) nd))
                      clear HL
                      have t7 := HL2.out.ch.atT
                      by_cases hfew : T.length ≤ 4096
                      · have d3 := decide_eq_true (show (T.length : Int) ≤ 4096 by omega)
                        have hb1 : Bytes s.1 := HL2.out.rdr.bytes
                        have hNum := Lib.hid (BQ.num_calls rg s.1 s.2 _ HL2.out.rdr)
                        have hn1 := rNum_lt s.1 s.2 hb1
                        have HTS := HL2.out.ts.step (by omega)
                        obtain ⟨⟨n1, s1⟩, hs1⟩ : ∃ q, rNum (s.1, s.2) = q := ⟨_, rfl⟩
                        rw [hs1] at hNum HTS hn1
                        simp only at hNum HTS hn1
                        obtain ⟨e1, he1⟩ : ∃ e1 : Nat, e1 = min n1 4096 := ⟨_, rfl⟩
                        have he1l : e1 ≤ 4096 := by omega
                        have k1 : (if (4096 : Int) < (n1 : Int) then (4096 : Int) else (n1 : Int)) = (e1 : Int) := by split <;> omega
                        rw [← he1] at HTS
                        obtain ⟨a1, ha1⟩ : ∃ a1 : Int, at_ + (1 + (e1 : Int)) = a1 := ⟨_, rfl⟩
                        have ha1b : -1 ≤ a1 ∧ a1 ≤ 4097 * ((T.length : Int) + 1) := by omega
                        rw [ha1] at HTS
                        have HTS1 := Lib.hid HTS
                        clear he1 hs1 HTS
                        go_wp2_with fail
                        refine hNum.out.mono ?_; rintro e w11 ⟨rfl, hrd1, hg1⟩
                        have HC1 := Lib.hid (HL2.out.ch.grown hg1 (by simp; omega))
                        have HT1 := Lib.hid (Kd.R_grown HL2.out.tk hg1 (fun k hk => by simp; omega))
                        have HB1 := Lib.hid (belowg HL2.out.below hg1 HL2.out.below.size (by omega))
                        have HRD1 := Lib.hid hrd1
                        clear hrd1 hg1 hNum t7
                        go_wp2_with fail
                        clear k1 ha1
                        have hNum2 := Lib.hid (BQ.num_calls rg s1.1 s1.2 w11.drew (HRD1.out.below (below_drew (Below.refl _ _))))
                        have hb2 : Bytes s1.1 := HRD1.out.bytes
                        have hn2 := rNum_lt s1.1 s1.2 hb2
                        have HTS2 := HTS1.out
                        obtain ⟨⟨n2, s2⟩, hs2⟩ : ∃ q, rNum (s1.1, s1.2) = q := ⟨_, rfl⟩
                        rw [show rNum s1 = rNum (s1.1, s1.2) from rfl, hs2] at HTS2
                        rw [hs2] at hNum2 hn2
                        simp only at hNum2 hn2 HTS2
                        obtain ⟨e2, he2⟩ : ∃ e2 : Nat, e2 = min n2 2199023255553 := ⟨_, rfl⟩
                        have he2l : e2 ≤ 2199023255553 := by omega
                        have k2 : (if (2199023255553 : Int) < (n2 : Int) then (2199023255553 : Int) else (n2 : Int)) = (e2 : Int) := by split <;> omega
                        rw [← he2] at HTS2
                        have HTS3 := Lib.hid HTS2
                        have t8 := (HC1.out.below (below_drew (Below.refl w11.heap.size w11)) HC1.out.lt).atT
                        clear he2 hs2 HTS2 hb2
                        have k4 : wrap64 (e2 : Int) = (e2 : Int) := w64n _ (by omega)
                        obtain ⟨m1, hm1⟩ : ∃ m1 : Nat, m = m1 + 1 := ⟨m - 1, by omega⟩
                        rw [show m - 1 = m1 by omega] at HTS3
                        have k5 : IntKind.u64.wrap ((m : Int) - 1) = (m1 : Int) := by rw [show (m : Int) - 1 = (m1 : Int) by omega]; exact CF.wu64_id _ (by omega) (by omega)
                        have k6 : (m : Int) - 1 = (m1 : Int) := by omega
                        have hm1l : m1 < 18446744073709551616 := by omega
                        have Hm1 := Lib.hid hm1
                        clear hm1
                        refine start_ (n := 16) (S := fun w' => w'.cell? ⟨w.heap.size, 16384, none⟩ = some (.slice A7 T.length c7)) (ds := [15]) #[false, false, false, false, false, false, false, false, false, false, false, false, false, false, false, false] (by kernel_rfl) rfl rfl (t8) (fun hHeld => ?_)
                        refine pure_ (i := 0) (N := some 143) (v := ?_) (a' := ?_) #[true, false, false, false, false, false, false, false, false, false, false, false, false, false, false, false] rfl rfl (by kernel_rfl) (fun _ _ _ h => h) (Or.inl ⟨by rfl, ?_⟩) ?_ ?_
                        rotate_left
                        · intro w'
                          go_simp
                          with_reducible rfl
                        rotate_left
                        · simp only [Act.put, List.setIfInBounds_toArray, List.set_cons_zero, List.set_cons_succ, i64_w, i32_w]
                          rfl
                        refine pure_ (i := 1) (N := some 144) (v := ?_) (a' := ?_) #[true, true, false, false, false, false, false, false, false, false, false, false, false, false, false, false] rfl rfl (by kernel_rfl) (fun _ _ _ h => h) (Or.inl ⟨by rfl, ?_⟩) ?_ ?_
                        rotate_left
                        · intro w'
                          go_simp
                          with_reducible rfl
                        rotate_left
                        · simp only [Act.put, List.setIfInBounds_toArray, List.set_cons_zero, List.set_cons_succ, i64_w, i32_w]
                          rfl
                        refine pure_ (i := 2) (N := some 145) (v := ?_) (a' := ?_) #[true, true, true, false, false, false, false, false, false, false, false, false, false, false, false, false] rfl rfl (by kernel_rfl) (fun _ _ _ h => h) (Or.inl ⟨by rfl, ?_⟩) ?_ ?_
                        rotate_left
                        · intro w'
                          go_simp
                          with_reducible rfl
                        rotate_left
                        · simp only [Act.put, List.setIfInBounds_toArray, List.set_cons_zero, List.set_cons_succ, i64_w, i32_w]
                          rfl
                        refine pure_ (i := 3) (N := some 146) (v := ?_) (a' := ?_) #[true, true, true, true, false, false, false, false, false, false, false, false, false, false, false, false] rfl rfl (by kernel_rfl) (fun _ _ _ h => h) (Or.inl ⟨by rfl, ?_⟩) ?_ ?_
                        rotate_left
                        · intro w'
                          go_simp
                          with_reducible rfl
                        rotate_left
                        · simp only [Act.put, List.setIfInBounds_toArray, List.set_cons_zero, List.set_cons_succ, i64_w, i32_w]
                          rfl
                        refine pure_ (i := 5) (N := some 148) (v := ?_) (a' := ?_) #[true, true, true, true, false, true, false, false, false, false, false, false, false, false, false, false] rfl rfl (by kernel_rfl) (fun _ _ _ h => h) (Or.inl ⟨by rfl, ?_⟩) ?_ ?_
                        rotate_left
                        · intro w'
                          go_simp
                          with_reducible rfl
                        rotate_left
                        · simp only [Act.put, List.setIfInBounds_toArray, List.set_cons_zero, List.set_cons_succ, i64_w, i32_w]
                          rfl
                        refine pure_ (i := 6) (N := some 149) (v := ?_) (a' := ?_) #[true, true, true, true, false, true, true, false, false, false, false, false, false, false, false, false] rfl rfl (by kernel_rfl) (fun _ _ _ h => h) (Or.inl ⟨by rfl, ?_⟩) ?_ ?_
                        rotate_left
                        · intro w'
                          go_simp
                          with_reducible rfl
                        rotate_left
                        · simp only [Act.put, List.setIfInBounds_toArray, List.set_cons_zero, List.set_cons_succ, i64_w, i32_w]
                          rfl
                        refine take_ (i := 4) (N := some 147) (v := ?_) (a' := ?_) #[true, true, true, true, true, true, true, false, false, false, false, false, false, false, false, false] rfl rfl (by kernel_rfl) (fun _ _ _ h => h) (Or.inl ⟨by rfl, ?_⟩) hHeld ?_ ?_
                        rotate_left
                        · intro w' s0
                          go_simp
                          with_reducible rfl
                        rotate_left
                        · simp only [Act.put, List.setIfInBounds_toArray, List.set_cons_zero, List.set_cons_succ, i64_w, i32_w]
                          rfl
                        refine one_ (i := 7) (N := some 150) #[true, true, true, true, true, true, true, true, false, false, false, false, false, false, false, false] rfl rfl (by kernel_rfl) (by decide) (fun K hK => ?_)
                        refine goes_ Try.func32 (by kernel_rfl) rfl #[.pointer (some ⟨rg, 0, none⟩)] (by rfl) rfl rfl (by simp only [List.map_toArray, List.map_cons, List.map_nil]; rfl) ?_
                        with_reducible refine (hNum2.out).mono ?_
                        rintro e w12 ⟨rfl, hrd2, hg2⟩
                        refine ⟨_, rfl, ?_⟩
                        have HC2 := Lib.hid ((HC1.out.below (below_drew (Below.refl _ _)) HC1.out.lt).grown hg2 (by simp; omega))
                        have HT2 := Lib.hid (Kd.R_grown (Kd.R_below HT1.out (below_drew (Below.refl _ _))) hg2 (fun k hk => by simp; omega))
                        have HB2 := Lib.hid (belowg (below_drew HB1.out) hg2 (below_drew HB1.out).size (by omega))
                        have HRD2 := Lib.hid hrd2
                        have hrl : rg < w12.heap.size := hrd2.lt
                        clear hrd2 hg2 t8
                        refine hK.out _ _ (HC2.out.atT) (fun hHeld => ?_)
                        clear hK K
                        refine norm_ (a' := ?_) ?_ ?_
                        rotate_left
                        · show Act.put _ (some 150) _ = _
                          simp only [Act.put, List.setIfInBounds_toArray, List.set_cons_zero, List.set_cons_succ, i64_w, i32_w]
                          rfl
                        refine pure_ (i := 8) (N := some 151) (v := ?_) (a' := ?_) #[true, true, true, true, true, true, true, true, true, false, false, false, false, false, false, false] rfl rfl (by kernel_rfl) (fun _ _ _ h => h) (Or.inl ⟨by rfl, ?_⟩) ?_ ?_
                        rotate_left
                        · intro w'
                          go_simp
                          with_reducible rfl
                        rotate_left
                        · simp only [Act.put, List.setIfInBounds_toArray, List.set_cons_zero, List.set_cons_succ, i64_w, i32_w]
                          rfl
                        refine take_ (i := 9) (N := some 152) (v := ?_) (a' := ?_) #[true, true, true, true, true, true, true, true, true, true, false, false, false, false, false, false] rfl rfl (by kernel_rfl) (fun _ _ _ h => h) (Or.inl ⟨by rfl, ?_⟩) hHeld ?_ ?_
                        rotate_left
                        · intro w' s0
                          go_simp
                          with_reducible rfl
                        rotate_left
                        · simp only [Act.put, List.setIfInBounds_toArray, List.set_cons_zero, List.set_cons_succ, i64_w, i32_w]
                          rfl
                        refine pure_ (i := 10) (N := some 153) (v := ?_) (a' := ?_) #[true, true, true, true, true, true, true, true, true, true, true, false, false, false, false, false] rfl rfl (by kernel_rfl) (fun _ _ _ h => h) (Or.inl ⟨by rfl, ?_⟩) ?_ ?_
                        rotate_left
                        · intro w'
                          go_simp
                          with_reducible rfl
                        rotate_left
                        · simp only [Act.put, List.setIfInBounds_toArray, List.set_cons_zero, List.set_cons_succ, i64_w, i32_w]
                          rfl
                        refine one_ (i := 11) (N := some 154) #[true, true, true, true, true, true, true, true, true, true, true, true, false, false, false, false] rfl rfl (by kernel_rfl) (by decide) (fun K hK => ?_)
                        refine value_ (w1 := ?_) (v := ?_) (by rfl) rfl ?_ ?_
                        rotate_left 2
                        · go_simp
                          constructor
                          · rfl
                          · rfl
                        refine hK.out _ _ ((HC2.out.below (below_alloc (Below.refl _ _) _) HC2.out.lt).atT) (fun hHeld => ?_)
                        clear hK K
                        refine norm_ (a' := ?_) ?_ ?_
                        rotate_left
                        · show Act.put _ (some 154) _ = _
                          simp only [Act.put, List.setIfInBounds_toArray, List.set_cons_zero, List.set_cons_succ, i64_w, i32_w]
                          rfl
                        refine one_ (i := 12) (N := some 155) #[true, true, true, true, true, true, true, true, true, true, true, true, true, false, false, false] rfl rfl (by kernel_rfl) (by decide) (fun K hK => ?_)
                        refine Kd.R_append_step kT w.heap.size (by rfl) (.tmp 147) (.tmp 154) 23 48 (.agg #[.int .i64 0, .int .i64 0]) 16 rfl Try.underlying23 infoTick' (by rfl) (by decide) (by decide) (.slice A7 T.length c7) T (a1, (e2 : Int)) [.int .i64 a1, .int .i64 (e2 : Int)] (fun k => rg < k) (fun _ => False) rfl rfl ⟨[_], [_], rfl, rfl, rfl⟩ (fun _ h => h.elim) (fun q hq => by omega) HT2.out HB2.out HB2.out.size (by omega) ?_
                        intro v9 w13 hr9 hb9 hg9 hat9
                        have HC3 := Lib.hid (HC2.out.grown hg9 (fun e => by have := HT2.out.1 _ e.symm; omega))
                        have HRD3 := Lib.hid (HRD2.out.far hg9 (fun e => by have := HT2.out.1 _ e.symm; omega) (fun k e hk => by have := HT2.out.1 _ e; omega))
                        obtain ⟨A9, c9, rfl, hc9, hd9⟩ := Kd.R_reads hr9
                        clear hc9 hd9
                        have HR3 := Lib.hid hr9
                        have HB3 := Lib.hid hb9
                        clear hr9 hb9 hg9 hat9
                        have t9 := HC3.out.atT
                        have cf9 := HC3.out.frz 16384
                        refine hK.out _ _ (t9) (fun hHeld => ?_)
                        clear hK K
                        refine norm_ (a' := ?_) ?_ ?_
                        rotate_left
                        · show Act.put _ (some 155) _ = _
                          simp only [Act.put, List.setIfInBounds_toArray, List.set_cons_zero, List.set_cons_succ, i64_w, i32_w]
                          rfl
                        refine pure_ (i := 13) (N := some 156) (v := ?_) (a' := ?_) #[true, true, true, true, true, true, true, true, true, true, true, true, true, true, false, false] rfl rfl (by kernel_rfl) (fun _ _ _ h => h) (Or.inl ⟨by rfl, ?_⟩) ?_ ?_
                        rotate_left
                        · intro w'
                          go_simp
                          with_reducible rfl
                        rotate_left
                        · simp only [Act.put, List.setIfInBounds_toArray, List.set_cons_zero, List.set_cons_succ, i64_w, i32_w]
                          rfl
                        refine pure_ (i := 14) (N := some 157) (v := ?_) (a' := ?_) #[true, true, true, true, true, true, true, true, true, true, true, true, true, true, true, false] rfl rfl (by kernel_rfl) (fun _ _ _ h => h) (Or.inl ⟨by rfl, ?_⟩) ?_ ?_
                        rotate_left
                        · intro w'
                          go_simp
                          with_reducible rfl
                        rotate_left
                        · simp only [Act.put, List.setIfInBounds_toArray, List.set_cons_zero, List.set_cons_succ, i64_w, i32_w]
                          rfl
                        refine last_ (i := 15) (N := none) #[true, true, true, true, true, true, true, true, true, true, true, true, true, true, true, true] rfl rfl (by kernel_rfl) (by decide) (fun K hK => ?_)
                        refine skip_ (w1 := ?_) (by rfl) rfl ?_ ?_
                        rotate_left
                        · go_simp
                          rfl
                        refine hK.out _ _ ?_
                        clear hK K
                        refine done_ (by kernel_rfl) ?_
                        have hlT : (T ++ [(a1, (e2 : Int))]).length = T.length + 1 := by rw [List.length_append, List.length_singleton]
                        have HN0 := (⟨Below.setCell HB3.out (Nat.le_refl _) _, HRD3.out.far (gset (World.grownBy.refl w13 (some w.heap.size)) 16384 (.slice A9 (T ++ [(a1, (e2 : Int))]).length c9)) (fun e => by injection e with e; omega) (fun k e hk => by injection e with e; omega), HC3.out.setT _, Kd.R_far HR3.out (fun k hk => by simp; omega) _, HTS3.out⟩ : Tl w (w13.setCell ⟨w.heap.size, 16384, none⟩ (.slice A9 (T ++ [(a1, (e2 : Int))]).length c9)) n8 rg b Cf Lf (T ++ [(a1, (e2 : Int))]) s2 (.slice A9 (T ++ [(a1, (e2 : Int))]).length c9) m1 a1)
                        rw [hlT] at HN0
                        have HN := Lib.hid HN0
                        clear HN0
                        clear t9 cf9 HC3 HRD3 HR3 HB3 k2 k4
                        go_wp2
                        go_roundw
                        case rel => exact ⟨T ++ [(a1, (e2 : Int))], a1, m1, s2, _, rfl, rfl, hm1l, by omega, by omega, ⟨HN.out⟩⟩
                        case measure => have := Hm1.out; simp [intOf]; omega
                      · have d3 := decide_eq_false (show ¬ (T.length : Int) ≤ 4096 by omega)
                        have HST := Lib.hid (HL2.out.ts.stop (.inr (.inr (by omega))))
                        obtain ⟨A9, c9, hv9, hc9, hC9⟩ := Kd.R_reads HL2.out.tk
                        first | subst hv9 | (have hv8 := hv9.symm; simp only [Value.slice.injEq, true_and] at hv8; obtain ⟨hv6, hv7⟩ := hv8; subst hv6 hv7; clear hv9)
                        have hFs := Lib.hid (show ∀ C L T', Pk b C L T' → C = Cf ∧ L = Lf ∧ T' = T from fun C L T' h => ⟨(HP3.out C L T' h).1, (HP3.out C L T' h).2.1, HST.out C L T' h⟩)
                        have hlen9 : T.length ≤ 1000000 := by omega
                        cases hm0 : mayB Cf Lf T with
                        | false =>
                          have hput := Lib.hid (pput_no _ _ _ _ A9 c9 _ HL2.out.ch hC9 HUC.out HUL.out (by omega) hm0)
                          have hF := Lib.hid (show ∀ C L T', ¬ Pk b C L T' from fun C L T' h => by
                            obtain ⟨rfl, rfl, rfl⟩ := hFs.out C L T' h
                            rw [h.may] at hm0
                            cases hm0)
                          clear hm0 hC9 hc9
                          go_wp2_with fail
                          refine hput.out.mono ?_; rintro e wp ⟨rfl, hbp⟩
                          have HBP := Lib.hid (below_step HL2.out.below hbp)
                          clear hbp hput
                          go_wp2
                          go_step3
                          go_wp2
                          simp only [Exit.jump]
                          go_ret2
                          exact ⟨.inl ⟨rfl, hF.out⟩, HBP.out⟩
                        | true =>
                          have hput := Lib.hid (pput_calls _ _ _ _ A9 c9 _ HL2.out.ch hC9 HUC.out HUL.out hlen9 hm0)
                          have hPB := Lib.hid (pack_bytes HUC.out HUL.out HL2.out.ch.lenC HL2.out.ch.lenL hm0)
                          have HM0 := Lib.hid hm0
                          have HTK := Lib.hid (show TK _ (.slice A9 T.length c9) T from ⟨A9, c9, rfl, hc9, hC9⟩)
                          clear hm0 hC9 hc9
                          go_wp2_with fail
                          refine hput.out.mono ?_; rintro e wp ⟨vp, rfl, hop, hbp⟩
                          obtain ⟨Ap, cp, rfl, hcp, hrp⟩ := OB.slice hop
                          have HLp := Lib.hid (HL2.out.under hbp)
                          have HTKp := Lib.hid (show TK wp (.slice A9 T.length c9) T from by
                            obtain ⟨A, c, e1, e2, e3⟩ := HTK.out
                            exact ⟨A, c, e1, e2, Kd.C_below e3 hbp⟩)
                          have heq := Lib.hid (equal_calls Ap (some ad) cp c (packB Cf Lf T) b wp hrp hcp (HR.out.below HLp.out.below) HC.out hPB.out HB.out)
                          clear hop hcp hrp hbp hput
                          go_wp2_with fail
                          refine heq.out.mono ?_; rintro e wq ⟨rfl, ⟨nq, rfl⟩⟩
                          by_cases hpb : packB Cf Lf T = b
                          · have hd9 : decide (packB Cf Lf T = b) = true := decide_eq_true hpb
                            have HPK := Lib.hid (⟨HLp.out.ch.lenC, HLp.out.ch.lenL, HUC.out, HUL.out, HM0.out, hpb⟩ : Pk b Cf Lf T)
                            clear hpb
                            go_wp2
                            simp only [Exit.jump]
                            go_ret2
                            exact ⟨.inr ⟨Cf, Lf, T, _, rfl, HLp.out.ch.below (pw_below_drewN (Below.refl _ _) _) HLp.out.ch.lt, (by
                              obtain ⟨A, c, e1, e2, e3⟩ := HTKp.out
                              exact ⟨A, c, e1, e2, Kd.C_below e3 (pw_below_drewN (Below.refl _ _) _)⟩), HPK.out⟩, pw_below_drewN HLp.out.below _⟩
                          · have hd9 : decide (packB Cf Lf T = b) = false := decide_eq_false hpb
                            have hF := Lib.hid (show ∀ C L T', ¬ Pk b C L T' from fun C L T' h => by
                              obtain ⟨rfl, rfl, rfl⟩ := hFs.out C L T' h
                              exact hpb h.eq)
                            clear hpb
                            go_wp2
                            go_step3
                            go_wp2
                            simp only [Exit.jump]
                            go_ret2
                            exact ⟨.inl ⟨rfl, hF.out⟩, pw_below_drewN HLp.out.below _⟩
                  · have d2 := decide_eq_false (show ¬ (0 : Int) < (m : Int) by omega)
                    obtain rfl : m = 0 := by omega
                    have HST := Lib.hid (HL.out.ts.stop (.inl rfl))
                    have HL2 := Lib.hid (HL.out.under (Below.refl _ _))
                    clear HL
                    obtain ⟨A9, c9, hv9, hc9, hC9⟩ := Kd.R_reads HL2.out.tk
                    first | subst hv9 | (have hv8 := hv9.symm; simp only [Value.slice.injEq, true_and] at hv8; obtain ⟨hv6, hv7⟩ := hv8; subst hv6 hv7; clear hv9)
                    have hFs := Lib.hid (show ∀ C L T', Pk b C L T' → C = Cf ∧ L = Lf ∧ T' = T from fun C L T' h => ⟨(HP3.out C L T' h).1, (HP3.out C L T' h).2.1, HST.out C L T' h⟩)
                    have hlen9 : T.length ≤ 1000000 := by omega
                    cases hm0 : mayB Cf Lf T with
                    | false =>
                      have hput := Lib.hid (pput_no _ _ _ _ A9 c9 _ HL2.out.ch hC9 HUC.out HUL.out (by omega) hm0)
                      have hF := Lib.hid (show ∀ C L T', ¬ Pk b C L T' from fun C L T' h => by
                        obtain ⟨rfl, rfl, rfl⟩ := hFs.out C L T' h
                        rw [h.may] at hm0
                        cases hm0)
                      clear hm0 hC9 hc9
                      go_wp2_with fail
                      refine hput.out.mono ?_; rintro e wp ⟨rfl, hbp⟩
                      have HBP := Lib.hid (below_step HL2.out.below hbp)
                      clear hbp hput
                      go_wp2
                      go_step3
                      go_wp2
                      simp only [Exit.jump]
                      go_ret2
                      exact ⟨.inl ⟨rfl, hF.out⟩, HBP.out⟩
                    | true =>
                      have hput := Lib.hid (pput_calls _ _ _ _ A9 c9 _ HL2.out.ch hC9 HUC.out HUL.out hlen9 hm0)
                      have hPB := Lib.hid (pack_bytes HUC.out HUL.out HL2.out.ch.lenC HL2.out.ch.lenL hm0)
                      have HM0 := Lib.hid hm0
                      have HTK := Lib.hid (show TK _ (.slice A9 T.length c9) T from ⟨A9, c9, rfl, hc9, hC9⟩)
                      clear hm0 hC9 hc9
                      go_wp2_with fail
                      refine hput.out.mono ?_; rintro e wp ⟨vp, rfl, hop, hbp⟩
                      obtain ⟨Ap, cp, rfl, hcp, hrp⟩ := OB.slice hop
                      have HLp := Lib.hid (HL2.out.under hbp)
                      have HTKp := Lib.hid (show TK wp (.slice A9 T.length c9) T from by
                        obtain ⟨A, c, e1, e2, e3⟩ := HTK.out
                        exact ⟨A, c, e1, e2, Kd.C_below e3 hbp⟩)
                      have heq := Lib.hid (equal_calls Ap (some ad) cp c (packB Cf Lf T) b wp hrp hcp (HR.out.below HLp.out.below) HC.out hPB.out HB.out)
                      clear hop hcp hrp hbp hput
                      go_wp2_with fail
                      refine heq.out.mono ?_; rintro e wq ⟨rfl, ⟨nq, rfl⟩⟩
                      by_cases hpb : packB Cf Lf T = b
                      · have hd9 : decide (packB Cf Lf T = b) = true := decide_eq_true hpb
                        have HPK := Lib.hid (⟨HLp.out.ch.lenC, HLp.out.ch.lenL, HUC.out, HUL.out, HM0.out, hpb⟩ : Pk b Cf Lf T)
                        clear hpb
                        go_wp2
                        simp only [Exit.jump]
                        go_ret2
                        exact ⟨.inr ⟨Cf, Lf, T, _, rfl, HLp.out.ch.below (pw_below_drewN (Below.refl _ _) _) HLp.out.ch.lt, (by
                          obtain ⟨A, c, e1, e2, e3⟩ := HTKp.out
                          exact ⟨A, c, e1, e2, Kd.C_below e3 (pw_below_drewN (Below.refl _ _) _)⟩), HPK.out⟩, pw_below_drewN HLp.out.below _⟩
                      · have hd9 : decide (packB Cf Lf T = b) = false := decide_eq_false hpb
                        have hF := Lib.hid (show ∀ C L T', ¬ Pk b C L T' from fun C L T' h => by
                          obtain ⟨rfl, rfl, rfl⟩ := hFs.out C L T' h
                          exact hpb h.eq)
                        clear hpb
                        go_wp2
                        go_step3
                        go_wp2
                        simp only [Exit.jump]
                        go_ret2
                        exact ⟨.inl ⟨rfl, hF.out⟩, pw_below_drewN HLp.out.below _⟩
end Go.Proofs.Ytkecppgodmbmlaa.PK

namespace Go.Proofs.Ytkecppgodmbmlaa.PK
open Go.RowKit Go.Proofs.YtkecppgodmbmlaaW.PrintWords Go.Proofs.YtkecppgodmbmlaaW.PrintLast Go.Proofs.YtkecppgodmbmlaaW.PrintMore Go.Proofs.Ytkecppgodmbmlaa.CD Go.Proofs.Ytkecppgodmbmlaa.BR
attribute [local go_sem] max2_int min2_int max_two min_two max_three min_three max_four min_four
set_option linter.unusedVariables false
set_option linter.unusedSimpArgs false
abbrev bw (W : World) (t : ByteArray) : World := Lib.bytesWorld W 5 t
theorem bytes_run (t : ByteArray) (W : World) : (convert 9 26 (.string t)).run Try.prog W = .ok (.slice (some ⟨W.heap.size, 0, none⟩) t.size (grownCap W t.size 0 5)) (bw W t) := print_bytes (P := Try.prog) 9 26 5 Try.underlying9 Try.underlying26 Try.underlying5 t W
theorem bw_below (W : World) (t : ByteArray) : Below W.heap.size W (bw W t) := bytes_below (Below.refl _ _) (Nat.le_refl _) 5 t
theorem bw_reads (W : World) (t : ByteArray) (ht : t.size ≤ 9223372036854775807) : ReadsInt (bw W t) .u8 (some ⟨W.heap.size, 0, none⟩) (bytesOf t).length (bytesOf t) := by
  rw [bytesOf_length]; exact bytes_reads W 5 t ht
/-- Get of a string's bytes. -/
theorem pgetstr_calls (s : ByteArray) (W : World) (hs : s.size ≤ 140737488355328) :
    Calls Try.prog 18 #[.slice (some ⟨W.heap.size, 0, none⟩) s.size (grownCap W s.size 0 5)] (bw W s) (GetsC (bytesOf s) (bw W s)) := by
  have h := pget_calls (some ⟨W.heap.size, 0, none⟩) (grownCap W s.size 0 5) (bytesOf s) (bw W s) (bw_reads W s (by omega)) (by rw [bytesOf_length]; exact grownCap_ge _ _ _ _) (BS.bytes_bytesOf s) (by rw [bytesOf_length]; exact hs)
  rw [bytesOf_length] at h
  exact h
theorem put_pk {b : List Int} {g : Nat} {C L T : List Pr} {v : Value} {w : World} (h : Chunk w g C L v) (hT : TK w v T) (hp : Pk b C L T) :
    Calls Try.prog 12 #[.pointer (some ⟨g, 0, none⟩)] w fun e w' => ∃ v, e = .returned (.tuple #[v, .int .i64 0]) ∧ OB w' w.heap.size v b ∧ Below w.heap.size w w' := by
  obtain ⟨A, c, rfl, hc, hk⟩ := hT
  have := pput_calls g C L T A c w h hk hp.u8C hp.u8L (by have := hp.few; omega) hp.may
  rw [hp.eq] at this
  exact this
set_option maxHeartbeats 1000000 in
set_option maxRecDepth 100000 in
theorem onceLaw (s : ByteArray) (w : World) (hs : s.size ≤ 140737488351232) :
    Calls Try.prog 8 #[.string s] w fun e w' => e = .returned (.bool true) ∧ Below w.heap.size w w' := by
  obtain ⟨q, hqq⟩ : ∃ q : Nat, q = min s.size 70000 := ⟨_, rfl⟩
  have kmin2 : (if (70000 : Int) < (s.size : Int) then (70000 : Int) else (s.size : Int)) = (q : Int) := by split <;> omega
  have hq1 : (q : Int) ≤ (s.size : Int) := by omega
  have hq0 : (0 : Int) ≤ (q : Int) := by omega
  obtain ⟨t, ht⟩ : ∃ t, t = s.extract 0 q := ⟨_, rfl⟩
  have htl : t.size ≤ 70000 := by rw [ht, ByteArray.size_extract]; omega
  have kt := ht.symm
  have HG := Lib.hid (fun W => pgetstr_calls t W (by omega))
  have kb := bytes_run t
  have eT := BS.beq_same t
  have eS := Lib.hid (BS.str_bytesOf t)
  clear hqq ht
  go_enter Try.func8, Try.ntmps8
  go_wp2_with fail
  refine (HG.out _).mono ?_; rintro e w1 ⟨⟨rfl, hF⟩ | ⟨C, L, T, v, rfl, hch, htk, hpk⟩, hb1⟩
  · have HB1 := Lib.hid (below_step (bw_below w t) hb1)
    clear hb1 hF
    go_wp2_with fail
    refine (works_calls _).mono ?_; rintro e w2 ⟨rfl, hb2⟩
    have HB2 := Lib.hid (below_step HB1.out hb2)
    clear hb2
    go_wp2
    go_ret
    exact ⟨rfl, HB2.out⟩
  · have HB1 := Lib.hid (below_step (bw_below w t) hb1)
    have hput := Lib.hid (put_pk hch htk hpk)
    clear hb1 hch htk hpk
    go_wp2_with fail
    refine hput.out.mono ?_; rintro e w2 ⟨v2, rfl, ho, hb2⟩
    obtain ⟨A2, c2, rfl, hc2, hr2⟩ := OB.slice ho
    have kc := string_of (bytesOf t) A2 c2 w2 hr2
    rw [eS.out] at kc
    have HB2 := Lib.hid (below_step HB1.out hb2)
    clear ho hr2 hb2 hput hc2
    go_wp2_with fail
    refine (works_calls _).mono ?_; rintro e w3 ⟨rfl, hb3⟩
    have HB3 := Lib.hid (below_step HB2.out hb3)
    clear hb3
    go_wp2
    go_ret
    exact ⟨rfl, HB3.out⟩
end Go.Proofs.Ytkecppgodmbmlaa.PK
