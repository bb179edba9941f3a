/- The own texts that the statement PackPuts leans on: PkRefMay, PkRefPal, PkRefPut, PkSame, PkRefSame, PkMade, PkMade2, PkArg, PkArg2, BAsk, PkTicks, PkPuts. -/
import Derived.Test.YtkecppgodmbmlaaAPackPuts
import Derived.Deep.QuietTactic
import Derived.BigQuiet
import Derived.Outline
import Derived.Test.YtkecppgodmbmlaaPPackPutsx2
import Derived.DeepKeys
import Derived.Deep.RegionHeld3
import Derived.OpenShut
import Derived.ChangeSame
import Derived.Deep.Slices
import Derived.Deep.Fields
import Derived.DataShut
import Derived.RowKit
import Derived.SizedLaws
namespace Go.Proofs.Ytkecppgodmbmlaa.PK
open Go.RowKit Go.Proofs.YtkecppgodmbmlaaW.PrintWords Go.Proofs.YtkecppgodmbmlaaW.PrintLast Go.Proofs.YtkecppgodmbmlaaW.PrintMore
set_option linter.unusedVariables false
set_option linter.unusedSimpArgs false
/-- The place of the tick ahead. -/
def wasAt (T : List Pr) : Nat → Int
  | 0 => -1
  | j + 1 => (T.getD j P0).1
set_option maxHeartbeats 4000000 in
set_option maxRecDepth 100000 in
theorem rmay_calls (g : Nat) (C L T : List Pr) (A : Option Addr) (c : Nat) (w : World) (h : Chunk w g C L (.slice A T.length c)) (hT : Kd.C kT w A T.length T) (hC : U8 C) (hL : U8 L) (hlT : T.length ≤ 140737488355328) :
    Calls Try.prog 24 #[.pointer (some ⟨g, 0, none⟩)] w fun e w' => e = .returned (.bool (mayB C L T)) ∧ Below w.heap.size w w' := by
  have H := Lib.hid h
  have HT := Lib.hid hT
  have HC := Lib.hid hC
  have HL := Lib.hid hL
  clear h hT hC hL
  go_enter Try.func24, Try.ntmps24
  go_wp2
  go_loopw [3] (fun iv W => ∃ i : Nat, i ≤ 4096 ∧ iv = .int .i64 (i : Int) ∧ Aside0 (∀ j, j < i → okAt C L j = true) ∧ Aside0 (Below w.heap.size w W)) (fun iv _ => 4096 - (intOf iv).toNat)
  case atStart => exact ⟨0, by omega, rfl, ⟨fun j hj => by omega⟩, ⟨Below.refl _ _⟩⟩
  case round =>
    obtain ⟨i, hi, rfl, ⟨hok⟩, ⟨hb⟩⟩ := hrel
    have HB := Lib.hid hb
    have HOK := Lib.hid hok
    clear hb hok
    by_cases hlt : i < 4096
    · have hd := decide_eq_true (show (i : Int) < 4096 by omega)
      have p1 : (0 ≤ (i : Int)) = True := eq_true (by omega)
      have p2 : ((i : Int) < 4096) = True := eq_true (by omega)
      have HW := H.out.below HB.out H.out.lt
      obtain ⟨c0, c1⟩ := HW.atC i hlt
      have hu := HC.out.at_ i (by rw [H.out.lenC]; exact hlt)
      have HM := Lib.hid (fun W => refMay_calls (C.getD i P0) hu W)
      have HE := Lib.hid (show okAt C L i = (mayK (C.getD i P0) && (decide ((L.getD i P0).1 ≤ 15) && decide ((L.getD i P0).2 ≤ 15))) from rfl)
      obtain ⟨⟨ck, cl⟩, hci⟩ : ∃ q, C.getD i P0 = q := ⟨_, rfl⟩
      obtain ⟨⟨sk, la⟩, hli⟩ : ∃ q, L.getD i P0 = q := ⟨_, rfl⟩
      rw [hci] at c0 c1 HM HE
      rw [hli] at HE
      have Hli := Lib.hid hli
      clear HW hu hci hli
      go_wp2_with fail
      refine (HM.out _).mono ?_; rintro e w1 ⟨rfl, hb1⟩
      have HB1 := Lib.hid (below_step HB.out hb1)
      have HW1 := H.out.below HB1.out H.out.lt
      obtain ⟨l0, l1⟩ := HW1.atL i hlt
      rw [Hli.out] at l0 l1
      clear hb1 HW1 c0 c1
      cases hm : mayK (ck, cl) with
      | false =>
        have HF := Lib.hid (all_false hlt (HE.out.trans (by rw [hm]; rfl)))
        clear hm
        go_wp2
        go_ret
        exact ⟨by unfold mayB; rw [HF.out]; rfl, HB1.out⟩
      | true =>
        by_cases hs : sk ≤ 15
        · have hs1 := decide_eq_false (show ¬ (15 : Int) < sk by omega)
          by_cases hp : la ≤ 15
          · have hp1 := decide_eq_false (show ¬ (15 : Int) < la by omega)
            have HF := Lib.hid (HE.out.trans (show _ = true by rw [hm, decide_eq_true hs, decide_eq_true hp]; rfl))
            clear hm hs hp
            go_wp2
            go_roundw
            case rel => exact ⟨i + 1, by omega, by go_num, ⟨fun j hj => by
              rcases Nat.lt_or_ge j i with h | h
              · exact HOK.out j h
              · obtain rfl : j = i := by omega
                exact HF.out⟩, ⟨HB1.out⟩⟩
            case measure => simp [intOf]; omega
          · have hp1 := decide_eq_true (show (15 : Int) < la by omega)
            have HF := Lib.hid (all_false hlt (HE.out.trans (show _ = false by rw [hm, decide_eq_true hs, decide_eq_false hp]; rfl)))
            clear hm hs hp
            go_wp2
            go_ret
            exact ⟨by unfold mayB; rw [HF.out]; rfl, HB1.out⟩
        · have hs1 := decide_eq_true (show (15 : Int) < sk by omega)
          have HF := Lib.hid (all_false hlt (HE.out.trans (show _ = false by rw [hm, decide_eq_false hs]; rfl)))
          clear hm hs
          go_wp2
          go_ret
          exact ⟨by unfold mayB; rw [HF.out]; rfl, HB1.out⟩
    · have hd := decide_eq_false (show ¬ (i : Int) < 4096 by omega)
      have HF : Hid ((List.range 4096).all (okAt C L) = true) := Lib.hid (by
        rw [List.all_eq_true]
        intro j hj
        exact HOK.out j (by have := List.mem_range.1 hj; omega))
      clear hlt
      go_wp2
      go_loopw [4] (fun jv W => ∃ j : Nat, j ≤ T.length ∧ jv = .int .i64 (j : Int) ∧ Aside0 (tOk (-1) T = tOk (wasAt T j) (T.drop j) ∧ -1 ≤ wasAt T j ∧ (0 < j → 0 ≤ wasAt T j)) ∧ Aside0 (Below w.heap.size w W)) (fun jv _ => T.length - (intOf jv).toNat)
      case atStart => exact ⟨0, by omega, rfl, ⟨⟨rfl, (show (-1 : Int) ≤ -1 by decide), fun h => absurd h (by decide)⟩⟩, ⟨HB.out⟩⟩
      case round =>
        obtain ⟨j, hj, rfl, ⟨hto⟩, ⟨hb⟩⟩ := hrel
        have HBj := Lib.hid hb
        have HTO := Lib.hid hto
        have ht := (H.out.below HBj.out H.out.lt).atT
        clear hb hto
        by_cases hjl : j < T.length
        · have hd2 := decide_eq_true (show (j : Int) < (T.length : Int) by omega)
          obtain ⟨ad, rfl, t0, t1⟩ := tick_at (Kd.C_below HT.out HBj.out) j hjl
          have hdr : T.drop j = T.getD j P0 :: T.drop (j + 1) := by rw [List.drop_eq_getElem_cons hjl, List.getD_eq_getElem?_getD, List.getElem?_eq_getElem hjl]; rfl
          obtain ⟨⟨ta, td⟩, hti⟩ : ∃ q, T.getD j P0 = q := ⟨_, rfl⟩
          rw [hti] at t0 t1 hdr
          have HS := Lib.hid (show tOk (-1) T = (decide (wasAt T j < ta) && (decide (ta < 4096) && (decide (1 ≤ td) && (decide (td ≤ 2199023255552) && tOk ta (T.drop (j + 1)))))) by rw [HTO.out.1, hdr]; rfl)
          have q1 : (0 ≤ (j : Int)) = True := eq_true (by omega)
          have q2 : ((j : Int) < (T.length : Int)) = True := eq_true (by omega)
          have HW1 := Lib.hid (show wasAt T (j + 1) = ta from by show (T.getD j P0).1 = ta; rw [hti])
          clear hdr hti
          have hw1 := HTO.out.2.1
          by_cases e1 : ta < 0
          · have d1 := decide_eq_true e1
            have HS2 := Lib.hid (HS.out.trans (show _ = false by rw [decide_eq_false (show ¬ wasAt T j < ta by omega)]; rfl))
            go_wp2_with fail
            go_quiet (fail)
            go_wp2
            go_ret
            exact ⟨by unfold mayB; rw [HF.out, HS2.out]; rfl, by repeat (first | exact HBj.out | apply below_drew | apply pw_below_drewN | apply below_alloc)⟩
          · have d1 := decide_eq_false e1
            by_cases e2 : 4096 ≤ ta
            · have d2 := decide_eq_true e2
              have HS2 := Lib.hid (HS.out.trans (show _ = false by rw [decide_eq_false (show ¬ ta < 4096 by omega)]; simp))
              go_wp2_with fail
              go_quiet (fail)
              go_wp2
              go_ret
              exact ⟨by unfold mayB; rw [HF.out, HS2.out]; rfl, by repeat (first | exact HBj.out | apply below_drew | apply pw_below_drewN | apply below_alloc)⟩
            · have d2 := decide_eq_false e2
              by_cases e3 : td < 1
              · have d3 := decide_eq_true e3
                have HS2 := Lib.hid (HS.out.trans (show _ = false by rw [decide_eq_false (show ¬ 1 ≤ td by omega)]; simp))
                go_wp2_with fail
                go_quiet (fail)
                go_wp2
                go_ret
                exact ⟨by unfold mayB; rw [HF.out, HS2.out]; rfl, by repeat (first | exact HBj.out | apply below_drew | apply pw_below_drewN | apply below_alloc)⟩
              · have d3 := decide_eq_false e3
                by_cases e4 : 2199023255552 < td
                · have d4 := decide_eq_true e4
                  have HS2 := Lib.hid (HS.out.trans (show _ = false by rw [decide_eq_false (show ¬ td ≤ 2199023255552 by omega)]; simp))
                  go_wp2_with fail
                  go_quiet (fail)
                  go_wp2
                  go_ret
                  exact ⟨by unfold mayB; rw [HF.out, HS2.out]; rfl, by repeat (first | exact HBj.out | apply below_drew | apply pw_below_drewN | apply below_alloc)⟩
                · have d4 := decide_eq_false e4
                  have HR := Lib.hid (show (decide (ta < 4096) && (decide (1 ≤ td) && (decide (td ≤ 2199023255552) && tOk ta (T.drop (j + 1))))) = tOk ta (T.drop (j + 1)) by rw [decide_eq_true (show ta < 4096 by omega), decide_eq_true (show 1 ≤ td by omega), decide_eq_true (show td ≤ 2199023255552 by omega)]; rfl)
                  by_cases h0 : j = 0
                  · have HWJ := Lib.hid (show wasAt T j = -1 from by rw [h0]; rfl)
                    have z4 := decide_eq_false (show ¬ (0 : Int) < (j : Int) by omega)
                    have z5 : decide (0 < j) = false := decide_eq_false (by omega)
                    clear h0
                    have HS2 := Lib.hid (HS.out.trans (show _ = tOk ta _ by rw [HWJ.out, decide_eq_true (show (-1 : Int) < ta by omega), HR.out]; rfl))
                    go_wp2_with fail
                    go_quiet (fail)
                    go_wp2
                    go_roundw
                    case rel => exact ⟨j + 1, by omega, by go_num, ⟨⟨by rw [HW1.out]; exact HS2.out, by rw [HW1.out]; omega, fun _ => by rw [HW1.out]; omega⟩⟩, ⟨by repeat (first | exact HBj.out | apply below_drew | apply pw_below_drewN | apply below_alloc)⟩⟩
                    case measure => simp [intOf]; omega
                  · obtain ⟨jm, hjm⟩ : ∃ jm, j = jm + 1 := ⟨j - 1, by omega⟩
                    obtain ⟨ad', had, t2, _⟩ := tick_at (Kd.C_below HT.out HBj.out) jm (by omega)
                    obtain rfl : ad = ad' := Option.some.inj had
                    obtain ⟨tp, htp⟩ : ∃ tp, (T.getD jm P0).1 = tp := ⟨_, rfl⟩
                    rw [htp] at t2
                    have HWJ := Lib.hid (show wasAt T j = tp from by rw [hjm]; exact htp)
                    have z1 : (j : Int) - 1 = (jm : Int) := by omega
                    have z4 := decide_eq_true (show (0 : Int) < (j : Int) by omega)
                    have z5 : decide (0 < j) = true := decide_eq_true (by omega)
                    have q3 : (0 ≤ (jm : Int)) = True := eq_true (by omega)
                    have q4 : ((jm : Int) < (T.length : Int)) = True := eq_true (by omega)
                    have t3 := Lib.Below.cellOf (below_alloc (Below.refl _ wr) (.cells #[.int .i64 ta, .int .i64 td] 48)) t2 (Nat.le_refl _)
                    have t4 := Lib.Below.cellOf (below_alloc (Below.refl _ wr) (.cells #[.int .i64 ta, .int .i64 td] 48)) ht (Nat.le_refl _)
                    clear htp had h0 hjm
                    by_cases e5 : ta ≤ tp
                    · have d5 := decide_eq_true e5
                      have HS2 := Lib.hid (HS.out.trans (show _ = false by rw [HWJ.out, decide_eq_false (show ¬ tp < ta by omega)]; rfl))
                      go_wp2_with fail
                      go_quiet (fail)
                      go_wp2
                      go_ret
                      exact ⟨by unfold mayB; rw [HF.out, HS2.out]; rfl, by repeat (first | exact HBj.out | apply below_drew | apply pw_below_drewN | apply below_alloc)⟩
                    · have d5 := decide_eq_false e5
                      have HS2 := Lib.hid (HS.out.trans (show _ = tOk ta _ by rw [HWJ.out, decide_eq_true (show tp < ta by omega), HR.out]; rfl))
                      go_wp2_with fail
                      go_quiet (fail)
                      go_wp2
                      go_roundw
                      case rel => exact ⟨j + 1, by omega, by go_num, ⟨⟨by rw [HW1.out]; exact HS2.out, by rw [HW1.out]; omega, fun _ => by rw [HW1.out]; omega⟩⟩, ⟨by repeat (first | exact HBj.out | apply below_drew | apply pw_below_drewN | apply below_alloc)⟩⟩
                      case measure => simp [intOf]; omega
        · have hd2 := decide_eq_false (show ¬ (j : Int) < (T.length : Int) by omega)
          have HS2 := Lib.hid (show tOk (-1) T = true by rw [HTO.out.1, List.drop_of_length_le (by omega)]; rfl)
          go_wp2
          go_ret
          exact ⟨by unfold mayB; rw [HF.out, HS2.out]; rfl, HBj.out⟩
end Go.Proofs.Ytkecppgodmbmlaa.PK

namespace Go.Proofs.Ytkecppgodmbmlaa.PK
open Go.RowKit Go.Proofs.YtkecppgodmbmlaaW.PrintWords Go.Proofs.YtkecppgodmbmlaaW.PrintLast Go.Proofs.YtkecppgodmbmlaaW.PrintMore Go.Proofs.Ytkecppgodmbmlaa.CD Go.Proofs.Ytkecppgodmbmlaa.BR
set_option linter.unusedVariables false
set_option linter.unusedSimpArgs false
theorem infoCell : (Try.prog.info? 34).map (fun i => (i.zero, i.size, i.bytes)) = some (some (.agg #[.int .u8 0, .int .u8 0]), 2, 2) := by kernel_rfl
theorem stepP_pal (s : List Pr × List Int) (p : Pr) : (stepP s p).1 = if pl s.1 p < 0 then s.1 ++ [p] else s.1 := by
  unfold stepP pl
  cases lk 0 s.1 p with
  | none => rfl
  | some j =>
    simp only
    rw [if_neg (by omega)]
theorem pal_le (l : List Pr) : (codes l).1.length ≤ l.length := by
  have h : ∀ (l : List Pr) (s : List Pr × List Int), (l.foldl stepP s).1.length ≤ s.1.length + l.length := by
    intro l
    induction l with
    | nil => intro s; simp
    | cons p l ih =>
      intro s
      rw [List.foldl_cons]
      have := ih (stepP s p)
      have h2 : (stepP s p).1.length ≤ s.1.length + 1 := by
        rw [stepP_pal]
        split
        · rw [List.length_append]; simp
        · omega
      rw [List.length_cons]
      omega
  have := h l ([], [])
  simpa [codes] using this
theorem codes_next (C : List Pr) (i : Nat) (h : i < C.length) : codes (C.take (i + 1)) = stepP (codes (C.take i)) (C.getD i P0) := by
  rw [List.take_add_one, List.getD_eq_getElem?_getD, List.getElem?_eq_getElem h]
  exact codes_snoc _ _
abbrev PalR (W : World) (base : Nat) (v : Value) (P : List Pr) : Prop := Kd.R PPackPuts.k34 34 W base (fun _ => True) v (P.map toS)
set_option maxHeartbeats 2000000 in
set_option maxRecDepth 100000 in
theorem rpal_calls (g : Nat) (C L : List Pr) (v : Value) (w : World) (h : Chunk w g C L v) :
    Calls Try.prog 25 #[.pointer (some ⟨g, 0, none⟩)] w fun e w' => ∃ v, e = .returned v ∧ PalR w' w.heap.size v (codes C).1 ∧ Below w.heap.size w w' := by
  have H := Lib.hid h
  clear h
  go_enter Try.func25, Try.ntmps25
  go_wp2
  go_loopw [3, 4] (fun lv iv W => ∃ i : Nat, i ≤ 4096 ∧ iv = .int .i64 (i : Int) ∧ Aside0 (PalR W w.heap.size lv (codes (C.take i)).1) ∧ Aside0 (Below w.heap.size w W)) (fun _ iv _ => 4096 - (intOf iv).toNat)
  case atStart => exact ⟨0, by omega, rfl, ⟨Kd.R_nil _ _ _ _ _⟩, ⟨Below.refl _ _⟩⟩
  case round =>
    obtain ⟨i, hi, rfl, ⟨hp⟩, ⟨hb⟩⟩ := hrel
    obtain ⟨P, hPP⟩ : ∃ P, (codes (C.take i)).1 = P := ⟨_, rfl⟩
    rw [hPP] at hp
    have hPl : P.length ≤ i := by rw [← hPP]; have := pal_le (C.take i); rw [List.length_take] at this; omega
    obtain ⟨A3, c3, rfl, hc3, hr3⟩ := Kd.R_reads hp
    rw [List.length_map] at hc3 hr3 ⊢
    have HB := Lib.hid hb
    have HR := Lib.hid (show PalR wr w.heap.size (.slice A3 P.length c3) P from by
      unfold PalR at hp ⊢
      rw [List.length_map] at hp
      exact hp)
    have HP := Lib.hid hPP
    by_cases hlt : i < 4096
    · have hd := decide_eq_true (show (i : Int) < 4096 by omega)
      have p1 : (0 ≤ (i : Int)) = True := eq_true (by omega)
      have p2 : ((i : Int) < 4096) = True := eq_true (by omega)
      have HW := H.out.below HB.out H.out.lt
      obtain ⟨c0, c1⟩ := HW.atC i hlt
      obtain ⟨q, hq⟩ : ∃ q, C.getD i P0 = q := ⟨_, rfl⟩
      rw [hq] at c0 c1
      have hpl := Lib.hid (place_calls P q A3 c3 wr (by omega) hr3 hc3)
      have HN := Lib.hid (show (codes (C.take (i + 1))).1 = if pl P q < 0 then P ++ [q] else P from by rw [codes_next C i (by rw [H.out.lenC]; exact hlt), stepP_pal, HP.out, hq])
      have HQ := Lib.hid hq
      obtain ⟨z, hz⟩ : ∃ z, pl P q = z := ⟨_, rfl⟩
      rw [hz] at hpl HN
      obtain ⟨ck, cl⟩ := q
      simp only at c0 c1
      clear hp hb hPP HW hq hz hr3
      go_wp2_with fail
      refine hpl.out.mono ?_; rintro e w1 ⟨rfl, hb1⟩
      have HB1 := Lib.hid (below_step HB.out hb1)
      have HR1 := Lib.hid (Kd.R_below HR.out hb1)
      have HW1 := H.out.below HB1.out H.out.lt
      obtain ⟨c2, c3'⟩ := HW1.atC i hlt
      clear hb1 hpl c0 c1
      by_cases hz : z < 0
      · have d1 := decide_eq_true hz
        have HN2 := Lib.hid (HN.out.trans (if_pos hz))
        have H2 := Lib.hid (⟨c2, c3'⟩ : _ ∧ _)
        have hq2 : w1.cell? ⟨g, i * 2, none⟩ = some (.int .u8 ck) := by rw [HQ.out] at c2; exact c2
        have hq3 : w1.cell? ⟨g, i * 2 + 1, none⟩ = some (.int .u8 cl) := by rw [HQ.out] at c3'; exact c3'
        clear hz c2 c3' H2
        go_wp2_with (at_builtin; refine Kd.R_append PPackPuts.k34 (w0 := w) w.heap.size rfl (.tmp 18) (.tmp 25) 66 34 (.agg #[.int .u8 0, .int .u8 0]) 2 rfl Try.underlying66 infoCell (by rfl) (by decide) (by decide) (.slice A3 P.length c3) (P.map toS) (toS (ck, cl)) [.int .u8 ck, .int .u8 cl] (fun _ => True) (fun _ => False) rfl rfl (PPackPuts.k34_mkM _ _ _ _) (fun _ h => h.elim) (fun _ _ => trivial) HR1.out HB1.out HB1.out.size (by rw [List.length_map]; omega) ?_; intro v6 w6 hr6 hb6 hg6 hat6; have HR6 := Lib.hid hr6; have HB6 := Lib.hid hb6; clear hr6 hb6 hg6 hat6)
        go_roundw
        case rel => exact ⟨i + 1, by omega, by go_num, ⟨by unfold PalR; rw [HN2.out, List.map_append]; exact HR6.out⟩, ⟨HB6.out⟩⟩
        case measure => simp [intOf]; omega
      · have d1 := decide_eq_false hz
        have HN2 := Lib.hid (HN.out.trans (if_neg hz))
        clear hz c2 c3'
        go_wp2
        go_roundw
        case rel => exact ⟨i + 1, by omega, by go_num, ⟨by rw [HN2.out]; exact HR1.out⟩, ⟨HB1.out⟩⟩
        case measure => simp [intOf]; omega
    · have hd := decide_eq_false (show ¬ (i : Int) < 4096 by omega)
      have he : C.take i = C := List.take_of_length_le (by rw [H.out.lenC]; omega)
      have HF := Lib.hid (show (codes C).1 = P from by rw [← he]; exact hPP)
      clear hp hb hPP hr3 he
      go_wp2
      go_ret
      exact ⟨.slice A3 P.length c3, rfl, by rw [HF.out]; exact HR.out, HB.out⟩
end Go.Proofs.Ytkecppgodmbmlaa.PK

namespace Go.Proofs.Ytkecppgodmbmlaa.PK
open Go.RowKit Go.Proofs.YtkecppgodmbmlaaW.PrintWords Go.Proofs.YtkecppgodmbmlaaW.PrintLast Go.Proofs.YtkecppgodmbmlaaW.PrintMore Go.Proofs.Ytkecppgodmbmlaa.CD Go.Proofs.Ytkecppgodmbmlaa.BR
set_option linter.unusedVariables false
set_option linter.unusedSimpArgs false
/-! ### plain: a code is a cell's place in the whole palette -/
theorem lk_at : ∀ (P : List Pr) (i : Nat) (j : Nat), P.Nodup → j < P.length → lk i P (P.getD j P0) = some (i + j)
  | [], i, j, _, h => by simp at h
  | q :: P, i, 0, _, _ => by rw [List.getD_cons_zero, lk, if_pos rfl]; rfl
  | q :: P, i, j + 1, hn, h => by
    rw [List.nodup_cons] at hn
    have hj : j < P.length := by simpa using h
    rw [List.getD_cons_succ, lk, if_neg, lk_at P (i + 1) j hn.2 hj]
    · congr 1; omega
    · intro e
      apply hn.1
      rw [← e, List.getD_eq_getElem?_getD, List.getElem?_eq_getElem hj]
      exact List.getElem_mem hj
theorem codes_pl (C : List Pr) : (codes C).2 = C.map (pl (codes C).1) := by
  obtain ⟨h1, h2⟩ := codes_mean C
  conv => rhs; arg 2; rw [← h1]
  rw [List.map_map]
  conv => lhs; rw [← List.map_id (codes C).2]
  refine List.map_congr_left fun k hk => ?_
  obtain ⟨a, b⟩ := h2 k hk
  show k = pl (codes C).1 (mean (codes C).1 k)
  unfold pl mean
  rw [lk_at (codes C).1 0 k.toNat (codes_nodup C).1 (by omega)]
  simp only
  omega
theorem pl_lt (C : List Pr) (i : Nat) (h : i < C.length) : 0 ≤ pl (codes C).1 (C.getD i P0) ∧ pl (codes C).1 (C.getD i P0) < ((codes C).1.length : Int) := by
  have hm : pl (codes C).1 (C.getD i P0) ∈ (codes C).2 := by
    rw [codes_pl C, List.getD_eq_getElem?_getD, List.getElem?_eq_getElem h]
    exact List.mem_map.2 ⟨_, List.getElem_mem h, rfl⟩
  exact (codes_mean C).2 _ hm
theorem map_next {α : Type} (f : Pr → α) (C : List Pr) (i : Nat) (h : i < C.length) : (C.take (i + 1)).map f = (C.take i).map f ++ [f (C.getD i P0)] := by
  rw [List.take_add_one, List.getD_eq_getElem?_getD, List.getElem?_eq_getElem h, List.map_append]
  rfl
/-! ### rows that lie apart -/
def Dj (a b : Value) : Prop := ∀ k, a.ownBlock = some k → b.ownBlock ≠ some k
theorem Dj.symm {a b : Value} (h : Dj a b) : Dj b a := fun k hk ha => h k ha hk
theorem OB.grownO {w W : World} {base : Nat} {v : Value} {l : List Int} {row : Option Nat} (h : OB w base v l) (hg : w.grownBy W row) (hf : ∀ k, v.ownBlock = some k → row ≠ some k) : OB W base v l := by
  refine ⟨h.1, ?_⟩
  rcases h.2 with h' | ⟨b, cap, cur, hv, hb, hh, hr⟩
  · exact .inl h'
  · refine .inr ⟨b, cap, cur, hv, hb, ?_, hr⟩
    have hlt := World.ownsRow.lt h b (by rw [hv]; rfl)
    rw [hg.block b hlt.2 (fun e => hf b (by rw [hv]; rfl) e.symm)]
    exact hh
theorem Dj.fresh {W : World} {base : Nat} {u v v1 : Value} {l : List Int} (hu : OB W base u l) (hd : Dj u v) (hat : v1.ownBlock = v.ownBlock ∨ ∃ b, v1.ownBlock = some b ∧ W.heap.size ≤ b) : Dj u v1 := fun k hk => by
  rcases hat with e | ⟨b, e, hb⟩
  · rw [e]; exact hd k hk
  · rw [e]
    have := (World.ownsRow.lt hu k hk).2
    intro h
    injection h with h
    omega
set_option maxHeartbeats 4000000 in
set_option maxRecDepth 100000 in
theorem rput_no (g : Nat) (C L T : List Pr) (A : Option Addr) (c : Nat) (w : World) (h : Chunk w g C L (.slice A T.length c)) (hT : Kd.C kT w A T.length T) (hC : U8 C) (hL : U8 L) (hlT : T.length ≤ 140737488355328) (hm : mayB C L T = false) :
    Calls Try.prog 13 #[.pointer (some ⟨g, 0, none⟩)] w fun e w' => e = .returned (.tuple #[.slice none 0 0, .int .i64 2]) ∧ Below w.heap.size w w' := by
  have HM := Lib.hid (rmay_calls g C L T A c w h hT hC hL hlT)
  rw [hm] at HM
  clear h hT hC hL hm
  go_enter Try.func13, Try.ntmps13
  go_wp2_with fail
  refine HM.out.mono ?_; rintro e w1 ⟨rfl, hb1⟩
  have HB1 := Lib.hid hb1
  clear hb1
  go_wp2
  go_ret2
  exact ⟨rfl, HB1.out⟩
theorem palette_at {W : World} {base : Nat} {A : Option Addr} {c : Nat} {P : List Pr} (h : PalR W base (.slice A P.length c) P) (i : Nat) (hi : i < P.length) : ∃ ad, A = some ad ∧ W.cell? (ad.add (i * 2)) = some (.int .u8 (P.getD i P0).1) ∧ W.cell? ⟨(ad.add (i * 2)).block, (ad.add (i * 2)).off + 1, none⟩ = some (.int .u8 (P.getD i P0).2) := by
  have h1 := (Kd.R_reads' h).2.2
  rw [List.length_map] at h1
  obtain ⟨ad, e, h2, h3⟩ := PPackPuts.at_T34 h1 (i : Int) (by omega) (by omega)
  have e2 : PPackPuts.rd_T34 (P.map toS) (i : Int) = toS (P.getD i P0) := by
    unfold PPackPuts.rd_T34
    rw [Int.toNat_natCast, List.getD_eq_getElem?_getD, List.getElem?_map, List.getElem?_eq_getElem hi, List.getD_eq_getElem?_getD, List.getElem?_eq_getElem hi]
    rfl
  rw [e2, Int.toNat_natCast] at h2 h3
  exact ⟨ad, e, h2, h3⟩
/-- What the loop over the palette keeps. -/
structure L1 (w W : World) (g : Nat) (C L : List Pr) (tv lv bv : Value) (P : List Pr) (lb : List Int) : Prop where
  below : Below w.heap.size w W
  ch : Chunk W g C L tv
  pal : PalR W w.heap.size lv P
  ob : OB W w.heap.size bv lb
  dj : Dj lv bv
theorem L1.under {w W W' : World} {g : Nat} {C L : List Pr} {tv lv bv : Value} {P : List Pr} {lb : List Int} (h : L1 w W g C L tv lv bv P lb) (hb : Below W.heap.size W W') : L1 w W' g C L tv lv bv P lb :=
  ⟨below_step h.below hb, h.ch.below hb h.ch.lt, Kd.R_below h.pal hb, OB.below h.ob hb, h.dj⟩
theorem ob_ne {W : World} {base : Nat} {v : Value} {l : List Int} (h : OB W base v l) {g : Nat} (hg : g < base) : some g ≠ v.ownBlock := fun e => by
  have := (World.ownsRow.lt h g e.symm).1
  omega
theorem L1.step {w W w9 : World} {g : Nat} {C L : List Pr} {tv lv bv v9 : Value} {P : List Pr} {lb ys : List Int} (h : L1 w W g C L tv lv bv P lb) (hgw : g < w.heap.size) (hr : Kd.R (Kd.int .u8) 5 w9 w.heap.size (fun _ => True) v9 (lb ++ ys)) (hb : Below w.heap.size w w9) (hg : W.grownBy w9 bv.ownBlock) (hat : v9.ownBlock = bv.ownBlock ∨ ∃ b, v9.ownBlock = some b ∧ W.heap.size ≤ b) : L1 w w9 g C L tv lv v9 P (lb ++ ys) :=
  ⟨hb, h.ch.grown hg (ob_ne h.ob hgw), Kd.R_grown2 h.pal rfl hg (fun k hk e => h.dj k e.symm hk), OB.of_R hr, fun k hk => by
    rcases hat with e | ⟨b, e, hb⟩
    · rw [e]; exact h.dj k hk
    · rw [e]
      have := Kd.R_lt h.pal k hk
      intro h'
      injection h' with h'
      omega⟩
theorem L1.apart {w W w9 : World} {g : Nat} {C L : List Pr} {tv lv bv a : Value} {P : List Pr} {lb la : List Int} (h : L1 w W g C L tv lv bv P lb) (hgw : g < w.heap.size) (ha : OB W w.heap.size a la) (h1 : Dj lv a) (h2 : Dj bv a) (hb : Below w.heap.size w w9) (hg : W.grownBy w9 a.ownBlock) : L1 w w9 g C L tv lv bv P lb :=
  ⟨hb, h.ch.grown hg (ob_ne ha hgw), Kd.R_grown2 h.pal rfl hg (fun k hk e => h1 k e.symm hk), OB.grownO h.ob hg h2, h.dj⟩
theorem Dj.freshR {W : World} {base : Nat} {P : List Pr} {u v v1 : Value} (hu : PalR W base u P) (hd : Dj u v) (hat : v1.ownBlock = v.ownBlock ∨ ∃ b, v1.ownBlock = some b ∧ W.heap.size ≤ b) : Dj u v1 := fun k hk => by
  rcases hat with e | ⟨b, e, hb⟩
  · rw [e]; exact hd k hk
  · rw [e]
    have := Kd.R_lt hu k hk
    intro h
    injection h with h
    omega
/-- What the loop over the cells keeps. -/
structure L2 (w W : World) (g : Nat) (C L : List Pr) (tv lv bv : Value) (P : List Pr) (lb : List Int) (ov uv : Value) (lo lu : List Int) : Prop where
  l1 : L1 w W g C L tv lv bv P lb
  one : OB W w.heap.size ov lo
  two : OB W w.heap.size uv lu
  d1 : Dj lv ov
  d2 : Dj lv uv
  d3 : Dj bv ov
  d4 : Dj bv uv
  d5 : Dj ov uv
section
variable {w W w9 : World} {g : Nat} {C L : List Pr} {tv lv bv : Value} {P : List Pr} {lb : List Int} {ov uv v9 : Value} {lo lu ys : List Int}
theorem L2.under (h : L2 w W g C L tv lv bv P lb ov uv lo lu) (hb : Below W.heap.size W w9) : L2 w w9 g C L tv lv bv P lb ov uv lo lu :=
  ⟨h.l1.under hb, OB.below h.one hb, OB.below h.two hb, h.d1, h.d2, h.d3, h.d4, h.d5⟩
theorem L2.step1 (h : L2 w W g C L tv lv bv P lb ov uv lo lu) (hgw : g < w.heap.size) (hr : OB w9 w.heap.size v9 (lo ++ ys)) (hb : Below w.heap.size w w9) (hg : W.grownBy w9 ov.ownBlock) (hat : v9.ownBlock = ov.ownBlock ∨ ∃ b, v9.ownBlock = some b ∧ W.heap.size ≤ b) : L2 w w9 g C L tv lv bv P lb v9 uv (lo ++ ys) lu :=
  ⟨h.l1.apart hgw h.one h.d1 h.d3 hb hg, hr, OB.grownO h.two hg h.d5.symm, Dj.freshR h.l1.pal h.d1 hat, h.d2, Dj.fresh h.l1.ob h.d3 hat, h.d4, (Dj.fresh h.two h.d5.symm hat).symm⟩
theorem L2.step2 (h : L2 w W g C L tv lv bv P lb ov uv lo lu) (hgw : g < w.heap.size) (hr : OB w9 w.heap.size v9 (lu ++ ys)) (hb : Below w.heap.size w w9) (hg : W.grownBy w9 uv.ownBlock) (hat : v9.ownBlock = uv.ownBlock ∨ ∃ b, v9.ownBlock = some b ∧ W.heap.size ≤ b) : L2 w w9 g C L tv lv bv P lb ov v9 lo (lu ++ ys) :=
  ⟨h.l1.apart hgw h.two h.d2 h.d4 hb hg, OB.grownO h.one hg h.d5, hr, h.d1, Dj.freshR h.l1.pal h.d2 hat, h.d3, Dj.fresh h.l1.ob h.d4 hat, Dj.fresh h.one h.d5 hat⟩
end
theorem getD_mem (l : List Pr) (i : Nat) (h : i < l.length) : l.getD i P0 ∈ l := by
  rw [List.getD_eq_getElem?_getD, List.getElem?_eq_getElem h]
  exact List.getElem_mem h
def lastT (was : Int) : List Pr → Int
  | [] => was
  | t :: r => lastT t.1 r
theorem tBytes_snoc : ∀ (l : List Pr) (was : Int) (t : Pr), tBytes was (l ++ [t]) = tBytes was l ++ (num (t.1 - lastT was l - 1).toNat ++ num t.2.toNat)
  | [], was, t => by simp [tBytes, lastT]
  | x :: l, was, t => by
    rw [List.cons_append, tBytes, tBytes_snoc l x.1 t, tBytes, lastT]
    simp only [List.append_assoc]
theorem lastT_snoc : ∀ (l : List Pr) (was : Int) (t : Pr), lastT was (l ++ [t]) = t.1
  | [], _, _ => rfl
  | x :: l, was, t => lastT_snoc l x.1 t
theorem take_nextT (T : List Pr) (j : Nat) (h : j < T.length) : T.take (j + 1) = T.take j ++ [T.getD j P0] := by
  rw [List.take_add_one, List.getD_eq_getElem?_getD, List.getElem?_eq_getElem h]
  rfl
theorem lastT_take (T : List Pr) : ∀ (j : Nat), j ≤ T.length → lastT (-1) (T.take j) = wasAt T j
  | 0, _ => rfl
  | j + 1, h => by rw [take_nextT T j (by omega), lastT_snoc]; rfl
theorem tBytes_next (T : List Pr) (j : Nat) (h : j < T.length) : tBytes (-1) (T.take (j + 1)) = tBytes (-1) (T.take j) ++ (num ((T.getD j P0).1 - wasAt T j - 1).toNat ++ num (T.getD j P0).2.toNat) := by
  rw [take_nextT T j h, tBytes_snoc, lastT_take T j (by omega)]
theorem tOk_all : ∀ (T : List Pr) (was : Int), -1 ≤ was → tOk was T = true → ∀ j, j < T.length → (-1 ≤ lastT was (T.take j) ∧ lastT was (T.take j) < (T.getD j P0).1) ∧ (T.getD j P0).1 < 4096 ∧ 1 ≤ (T.getD j P0).2 ∧ (T.getD j P0).2 ≤ 2199023255552
  | t :: r, was, hw, h, 0, _ => by
    obtain ⟨⟨a, b⟩, ⟨c, d⟩, hr⟩ := tOk_cons h
    exact ⟨⟨hw, a⟩, b, c, d⟩
  | t :: r, was, hw, h, j + 1, hj => by
    obtain ⟨⟨a, b⟩, ⟨c, d⟩, hr⟩ := tOk_cons h
    exact tOk_all r t.1 (by omega) hr j (by simpa using hj)
theorem tOk_at (T : List Pr) (h : tOk (-1) T = true) (j : Nat) (hj : j < T.length) : (-1 ≤ wasAt T j ∧ wasAt T j < (T.getD j P0).1) ∧ (T.getD j P0).1 < 4096 ∧ 1 ≤ (T.getD j P0).2 ∧ (T.getD j P0).2 ≤ 2199023255552 := by
  have := tOk_all T (-1) (by omega) h j hj
  rw [lastT_take T j (by omega)] at this
  exact this
theorem tOk_take : ∀ (T : List Pr) (was : Int), tOk was T = true → ∀ j, tOk was (T.take j) = true
  | [], _, _, _ => by simp [tOk]
  | t :: r, was, h, 0 => rfl
  | t :: r, was, h, j + 1 => by
    rw [List.take_succ_cons]
    rw [tOk, Bool.and_eq_true, Bool.and_eq_true, Bool.and_eq_true, Bool.and_eq_true] at h ⊢
    exact ⟨h.1, h.2.1, h.2.2.1, h.2.2.2.1, tOk_take r t.1 h.2.2.2.2 j⟩
theorem dj_nil (v : Value) : Dj v (.slice none 0 0) := fun k _ h => by simp [Value.ownBlock] at h
set_option maxHeartbeats 4000000 in
set_option maxRecDepth 100000 in
theorem rput_calls (g : Nat) (C L T : List Pr) (A : Option Addr) (c : Nat) (w : World) (h : Chunk w g C L (.slice A T.length c)) (hT : Kd.C kT w A T.length T) (hC : U8 C) (hL : U8 L) (hlT : T.length ≤ 1000000) (hm : mayB C L T = true) :
    Calls Try.prog 13 #[.pointer (some ⟨g, 0, none⟩)] w fun e w' => ∃ v, e = .returned (.tuple #[v, .int .i64 0]) ∧ OB w' w.heap.size v (packB C L T) ∧ Below w.heap.size w w' := by
  have HM := Lib.hid (rmay_calls g C L T A c w h hT hC hL (by omega))
  rw [hm] at HM
  have H := Lib.hid h
  have HT := Lib.hid hT
  have HPK := Lib.hid (⟨h.lenC, h.lenL, hC, hL, hm, rfl⟩ : Pk (packB C L T) C L T)
  clear h hT hC hL hm
  go_enter Try.func13, Try.ntmps13
  go_wp2_with fail
  refine HM.out.mono ?_; rintro e w1 ⟨rfl, hb1⟩
  have HB1 := Lib.hid hb1
  have HC1 := Lib.hid (H.out.below hb1 H.out.lt)
  have hpal := Lib.hid (rpal_calls g C L _ w1 HC1.out)
  clear hb1
  go_wp2_with fail
  refine hpal.out.mono ?_; rintro e w2 ⟨lv, rfl, hpr, hb2⟩
  obtain ⟨P, hPP⟩ : ∃ P, (codes C).1 = P := ⟨_, rfl⟩
  have hPl : P.length ≤ 240 := by rw [← hPP]; exact HPK.out.pal
  rw [hPP] at hpr
  have HPP := Lib.hid hPP
  obtain ⟨A3, c3, rfl, hc3, hr3⟩ := Kd.R_reads hpr
  rw [List.length_map] at hc3 hr3 ⊢
  have HPR := Lib.hid (show PalR w2 w.heap.size (.slice A3 P.length c3) P from by
    unfold PalR at hpr ⊢
    rw [List.length_map] at hpr
    exact Kd.R_lower hpr HB1.out.size)
  have HB2 := Lib.hid (below_step HB1.out hb2)
  have HC2 := Lib.hid (HC1.out.below hb2 HC1.out.lt)
  clear hpal hpr hb2 hr3 hc3 HC1 hPP
  have k1 : IntKind.u8.wrap (P.length : Int) = (P.length : Int) := u8_wrap _ (by omega) (by omega)
  have k2 : (P.length : Int) % 256 = (P.length : Int) := by omega
  have hA3 : ∀ k, (Value.slice A3 P.length c3).ownBlock = some k → k < w2.heap.size := Kd.R_lt HPR.out
  have HL0 := Lib.hid (⟨below_alloc HB2.out _, HC2.out.below (below_alloc (Below.refl _ _) _) HC2.out.lt, Kd.R_below HPR.out (below_alloc (Below.refl _ _) _), own_less (own_lit w2 w2.heap.size 5 .u8 [(P.length : Int)] (Nat.le_refl _) (by simp)) HB2.out.size, fun k hk hb => by
    have := hA3 k hk
    injection hb with hb
    simp only at hb
    omega⟩ : L1 w (w2.alloc (.cells #[.int .u8 (P.length : Int)] 5)) g C L (.slice A T.length c) (.slice A3 P.length c3) (.slice (some ⟨w2.heap.size, 0, none⟩) 1 1) P [(P.length : Int)])
  clear hA3
  go_wp2_with fail
  clear k1 k2
  go_loopw [5, 6] (fun bv iv W => ∃ i : Nat, i ≤ P.length ∧ iv = .int .i64 (i : Int) ∧ Aside0 (L1 w W g C L (.slice A T.length c) (.slice A3 P.length c3) bv P ([(P.length : Int)] ++ pBytes (P.take i)))) (fun _ iv _ => P.length - (intOf iv).toNat)
  case atStart => exact ⟨0, by omega, rfl, ⟨HL0.out⟩⟩
  case round =>
    obtain ⟨i, hi, rfl, ⟨hl1⟩⟩ := hrel
    have HL := Lib.hid hl1
    clear hl1
    by_cases hlt : i < P.length
    · have hd := decide_eq_true (show (i : Int) < (P.length : Int) by omega)
      have hr3 := Kd.R_reads' HL.out.pal
      obtain ⟨ad3, rfl, s0, s1⟩ := palette_at HL.out.pal i hlt
      obtain ⟨⟨pk, pv⟩, hpi⟩ : ∃ q, P.getD i P0 = q := ⟨_, rfl⟩
      rw [hpi] at s0 s1
      have HPQ := Lib.hid hpi
      have HPI := Lib.hid (show pBytes (P.take (i + 1)) = pBytes (P.take i) ++ [pk, pv] from by
        rw [List.take_add_one, List.getElem?_eq_getElem hlt]
        rw [List.getD_eq_getElem?_getD, List.getElem?_eq_getElem hlt] at hpi
        rw [show P[i] = (pk, pv) from hpi]
        exact pBytes_snoc _ _)
      have p1 : (0 ≤ (i : Int)) = True := eq_true (by omega)
      have p2 : ((i : Int) < (P.length : Int)) = True := eq_true (by omega)
      obtain ⟨lb, hlb⟩ : ∃ lb, [(P.length : Int)] ++ pBytes (P.take i) = lb := ⟨_, rfl⟩
      rw [hlb] at HL
      have hlbl : lb.length ≤ 1000 := by rw [← hlb, List.length_append, pBytes_len, List.length_take]; simp; omega
      have HLB := Lib.hid hlb
      obtain ⟨A5, c5, rfl, hc5, _⟩ := OB.slice HL.out.ob
      clear hr3 hpi hlb hc5
      go_wp2_with fail
      refine start_ (n := 14) (S := fun w' => w'.cell? (ad3.add (i * 2)) = some (.int .u8 pk) ∧ w'.cell? ⟨(ad3.add (i * 2)).block, (ad3.add (i * 2)).off + 1, none⟩ = some (.int .u8 pv)) (ds := []) #[false, false, false, false, false, false, false, false, false, false, false, false, false, false] (by kernel_rfl) rfl rfl ⟨s0, s1⟩ (fun hHeld => ?_)
      refine pure_ (i := 0) (N := some 30) (v := ?_) (a' := ?_) #[true, false, false, false, false, false, false, false, false, false, false, false, false, false] rfl rfl (by kernel_rfl) (fun _ _ _ h => h) (Or.inl ⟨by rfl, ?_⟩) ?_ ?_
      rotate_left
      · intro w'
        go_simp
        with_reducible rfl
      rotate_left
      · simp only [Act.put, List.setIfInBounds_toArray, List.set_cons_zero, List.set_cons_succ, i64_w, i32_w]
        rfl
      refine pure_ (i := 1) (N := some 31) (v := ?_) (a' := ?_) #[true, true, false, false, false, false, false, false, false, false, false, false, false, false] rfl rfl (by kernel_rfl) (fun _ _ _ h => h) (Or.inl ⟨by rfl, ?_⟩) ?_ ?_
      rotate_left
      · intro w'
        go_simp
        with_reducible rfl
      rotate_left
      · simp only [Act.put, List.setIfInBounds_toArray, List.set_cons_zero, List.set_cons_succ, i64_w, i32_w]
        rfl
      refine pure_ (i := 2) (N := some 32) (v := ?_) (a' := ?_) #[true, true, true, false, false, false, false, false, false, false, false, false, false, false] rfl rfl (by kernel_rfl) (fun _ _ _ h => h) (Or.inl ⟨by rfl, ?_⟩) ?_ ?_
      rotate_left
      · intro w'
        go_simp
        with_reducible rfl
      rotate_left
      · simp only [Act.put, List.setIfInBounds_toArray, List.set_cons_zero, List.set_cons_succ, i64_w, i32_w]
        rfl
      refine pure_ (i := 3) (N := some 33) (v := ?_) (a' := ?_) #[true, true, true, true, false, false, false, false, false, false, false, false, false, false] rfl rfl (by kernel_rfl) (fun _ _ _ h => h) (Or.inl ⟨by rfl, ?_⟩) ?_ ?_
      rotate_left
      · intro w'
        go_simp
        with_reducible rfl
      rotate_left
      · simp only [Act.put, List.setIfInBounds_toArray, List.set_cons_zero, List.set_cons_succ, i64_w, i32_w]
        rfl
      refine pure_ (i := 4) (N := some 34) (v := ?_) (a' := ?_) #[true, true, true, true, true, false, false, false, false, false, false, false, false, false] rfl rfl (by kernel_rfl) (fun _ _ _ h => h) (Or.inl ⟨by rfl, ?_⟩) ?_ ?_
      rotate_left
      · intro w'
        go_simp
        with_reducible rfl
      rotate_left
      · simp only [Act.put, List.setIfInBounds_toArray, List.set_cons_zero, List.set_cons_succ, i64_w, i32_w]
        rfl
      refine pure_ (i := 6) (N := some 36) (v := ?_) (a' := ?_) #[true, true, true, true, true, false, true, false, false, false, false, false, false, false] rfl rfl (by kernel_rfl) (fun _ _ _ h => h) (Or.inl ⟨by rfl, ?_⟩) ?_ ?_
      rotate_left
      · intro w'
        go_simp
        with_reducible rfl
      rotate_left
      · simp only [Act.put, List.setIfInBounds_toArray, List.set_cons_zero, List.set_cons_succ, i64_w, i32_w]
        rfl
      refine pure_ (i := 7) (N := some 37) (v := ?_) (a' := ?_) #[true, true, true, true, true, false, true, true, false, false, false, false, false, false] rfl rfl (by kernel_rfl) (fun _ _ _ h => h) (Or.inl ⟨by rfl, ?_⟩) ?_ ?_
      rotate_left
      · intro w'
        go_simp
        with_reducible rfl
      rotate_left
      · simp only [Act.put, List.setIfInBounds_toArray, List.set_cons_zero, List.set_cons_succ, i64_w, i32_w]
        rfl
      refine pure_ (i := 8) (N := some 38) (v := ?_) (a' := ?_) #[true, true, true, true, true, false, true, true, true, false, false, false, false, false] rfl rfl (by kernel_rfl) (fun _ _ _ h => h) (Or.inl ⟨by rfl, ?_⟩) ?_ ?_
      rotate_left
      · intro w'
        go_simp
        with_reducible rfl
      rotate_left
      · simp only [Act.put, List.setIfInBounds_toArray, List.set_cons_zero, List.set_cons_succ, i64_w, i32_w]
        rfl
      refine pure_ (i := 9) (N := some 39) (v := ?_) (a' := ?_) #[true, true, true, true, true, false, true, true, true, true, false, false, false, false] rfl rfl (by kernel_rfl) (fun _ _ _ h => h) (Or.inl ⟨by rfl, ?_⟩) ?_ ?_
      rotate_left
      · intro w'
        go_simp
        with_reducible rfl
      rotate_left
      · simp only [Act.put, List.setIfInBounds_toArray, List.set_cons_zero, List.set_cons_succ, i64_w, i32_w]
        rfl
      refine take_ (i := 5) (N := some 35) (v := ?_) (a' := ?_) #[true, true, true, true, true, true, true, true, true, true, false, false, false, false] rfl rfl (by kernel_rfl) (fun _ _ _ h => h) (Or.inl ⟨by rfl, ?_⟩) hHeld ?_ ?_
      rotate_left
      · rintro w' ⟨s0, s1⟩
        go_simp
        with_reducible rfl
      rotate_left
      · simp only [Act.put, List.setIfInBounds_toArray, List.set_cons_zero, List.set_cons_succ, i64_w, i32_w]
        rfl
      refine take_ (i := 10) (N := some 40) (v := ?_) (a' := ?_) #[true, true, true, true, true, true, true, true, true, true, true, false, false, false] rfl rfl (by kernel_rfl) (fun _ _ _ h => h) (Or.inl ⟨by rfl, ?_⟩) hHeld ?_ ?_
      rotate_left
      · rintro w' ⟨s0, s1⟩
        go_simp
        with_reducible rfl
      rotate_left
      · simp only [Act.put, List.setIfInBounds_toArray, List.set_cons_zero, List.set_cons_succ, i64_w, i32_w]
        rfl
      refine one_ (i := 11) (N := some 41) #[true, true, true, true, true, true, true, true, true, true, true, true, false, false] rfl rfl (by kernel_rfl) (by decide) (fun K hK => ?_)
      refine value_ (w1 := ?_) (v := ?_) (by rfl) rfl ?_ ?_
      rotate_left 2
      · go_simp
        constructor
        · rfl
        · rfl
      refine hK.out _ _ ⟨(Lib.Below.cellOf (below_drew (below_alloc (Below.refl _ wr) _)) s0 (Nat.le_refl _)), (Lib.Below.cellOf (below_drew (below_alloc (Below.refl _ wr) _)) s1 (Nat.le_refl _))⟩ (fun hHeld => ?_)
      clear hK K
      refine norm_ (a' := ?_) ?_ ?_
      rotate_left
      · show Act.put _ (some 41) _ = _
        simp only [Act.put, List.setIfInBounds_toArray, List.set_cons_zero, List.set_cons_succ, i64_w, i32_w]
        rfl
      refine one_ (i := 12) (N := some 42) #[true, true, true, true, true, true, true, true, true, true, true, true, true, false] rfl rfl (by kernel_rfl) (by decide) (fun K hK => ?_)
      refine Kd.R_append_rows_step (Kd.int .u8) (Rr := fun x cs => cs = [.int .u8 x]) w.heap.size (by rfl) (.tmp 30) (.tmp 41) 26 5 (.int .u8 0) 1 rfl Try.underlying26 infoU8 (by rfl) (by decide) (by decide) (.slice A5 lb.length c5) lb [pk, pv] (some ⟨wr.heap.size, 0, none⟩) 2 2 (fun _ => True) (fun _ => False) rfl rfl (Kd.R_of_own (OB.below HL.out.ob (below_alloc (below_drew (Below.refl _ _)) _)) (fun _ _ => trivial)) (Kd.C_of_reads (d := (0 : Int)) (h1 := fun _ => rfl) (own_reads' (n := 2) (own_lit wr.drew wr.heap.size 5 .u8 [pk, pv] (Nat.le_refl _) (by simp)))) (fun x cs h => h) (fun _ h => h.elim) (fun _ _ => trivial) (below_alloc (below_drew HL.out.below) _) (below_alloc (below_drew HL.out.below) _).size (by simp; omega) ?_
      intro v9 w9 hr9 hb9 hg9 hat9
      have HN9 := Lib.hid ((HL.out.under (below_alloc (below_drew (Below.refl _ wr)) (.cells #[.int .u8 pk, .int .u8 pv] 5))).step H.out.lt hr9 hb9 hg9 hat9)
      obtain ⟨ad9, had9, s2, s3⟩ := palette_at HN9.out.pal i hlt
      obtain rfl : ad3 = ad9 := Option.some.inj had9
      rw [HPQ.out] at s2 s3
      clear hr9 hb9 hg9 hat9 had9
      refine hK.out _ _ ⟨s2, s3⟩ (fun hHeld => ?_)
      clear hK K
      refine norm_ (a' := ?_) ?_ ?_
      rotate_left
      · show Act.put _ (some 42) _ = _
        simp only [Act.put, List.setIfInBounds_toArray, List.set_cons_zero, List.set_cons_succ, i64_w, i32_w]
        rfl
      refine pure_ (i := 13) (N := some 5) (v := ?_) (a' := ?_) #[true, true, true, true, true, true, true, true, true, true, true, true, true, true] rfl rfl (by kernel_rfl) (fun _ _ _ h => h) (Or.inl ⟨by rfl, ?_⟩) ?_ ?_
      rotate_left
      · intro w'
        go_simp
        with_reducible rfl
      rotate_left
      · simp only [Act.put, List.setIfInBounds_toArray, List.set_cons_zero, List.set_cons_succ, i64_w, i32_w]
        rfl
      refine done_ (by kernel_rfl) ?_
      have HN := Lib.hid (show L1 w w9 g C L (.slice A T.length c) (.slice (some ad3) P.length c3) v9 P ([(P.length : Int)] ++ pBytes (P.take (i + 1))) from by
        rw [HPI.out, ← List.append_assoc, HLB.out]
        exact HN9.out)
      clear HN9 s0 s1
      go_wp2
      go_roundw
      case rel => exact ⟨i + 1, by omega, by go_num, ⟨HN.out⟩⟩
      case measure => simp [intOf]; omega
    · obtain rfl : i = P.length := by omega
      have hd := decide_eq_false (show ¬ (P.length : Int) < (P.length : Int) by omega)
      rw [List.take_length] at HL
      clear hlt hi
      have HL2 := Lib.hid (⟨HL.out, own_nil _ _ _ _, own_nil _ _ _ _, dj_nil _, dj_nil _, dj_nil _, dj_nil _, dj_nil _⟩ : L2 w wr g C L (.slice A T.length c) (.slice A3 P.length c3) u5 P ([(P.length : Int)] ++ pBytes P) (.slice none 0 0) (.slice none 0 0) [] [])
      clear HL HL0
      go_wp2_with fail
      obtain ⟨w5, hw5⟩ : ∃ w5, w5 = wr := ⟨_, rfl⟩
      clear hw5
      go_loopw [7, 8, 9] (fun ov uv iv W => ∃ i : Nat, i ≤ 4096 ∧ iv = .int .i64 (i : Int) ∧ Aside0 (L2 w W g C L (.slice A T.length c) (.slice A3 P.length c3) u5 P ([(P.length : Int)] ++ pBytes P) ov uv ((C.take i).map (pl P)) ((L.take i).map lcode))) (fun _ _ iv _ => 4096 - (intOf iv).toNat)
      case atStart => exact ⟨0, by omega, rfl, ⟨HL2.out⟩⟩
      case round =>
        obtain ⟨i, hi, rfl, ⟨hl2⟩⟩ := hrel
        have HL := Lib.hid hl2
        clear hl2
        by_cases hlt : i < 4096
        · have hd := decide_eq_true (show (i : Int) < 4096 by omega)
          have p1 : (0 ≤ (i : Int)) = True := eq_true (by omega)
          have p2 : ((i : Int) < 4096) = True := eq_true (by omega)
          obtain ⟨c0, c1⟩ := HL.out.l1.ch.atC i hlt
          obtain ⟨q, hq⟩ : ∃ q, C.getD i P0 = q := ⟨_, rfl⟩
          rw [hq] at c0 c1
          have hplr := Kd.R_reads' HL.out.l1.pal
          rw [List.length_map] at hplr
          have hpl := Lib.hid (place_calls P q A3 c3 wr (by omega) hplr.2.2 hplr.2.1)
          have hpz := pl_lt C i (by rw [HPK.out.lenC]; exact hlt)
          rw [HPP.out, hq] at hpz
          have HN1 := Lib.hid (show (C.take (i + 1)).map (pl P) = (C.take i).map (pl P) ++ [pl P q] from by rw [map_next _ C i (by rw [HPK.out.lenC]; exact hlt), hq])
          have HN2 := Lib.hid (map_next lcode L i (by rw [HPK.out.lenL]; exact hlt))
          obtain ⟨z, hz⟩ : ∃ z, pl P q = z := ⟨_, rfl⟩
          rw [hz] at hpl HN1 hpz
          obtain ⟨ck, cl⟩ := q
          simp only at c0 c1
          have z0 : 0 ≤ z := hpz.1
          have z1 : z < 256 := by omega
          have z2 : IntKind.u8.wrap z = z := u8_wrap _ z0 z1
          have z3 : z % 256 = z := by omega
          obtain ⟨lo, hlo⟩ : ∃ lo, (C.take i).map (pl P) = lo := ⟨_, rfl⟩
          obtain ⟨lu, hlu⟩ : ∃ lu, (L.take i).map lcode = lu := ⟨_, rfl⟩
          rw [hlo, hlu] at HL
          rw [hlo] at HN1
          rw [hlu] at HN2
          have hlol : lo.length ≤ 4096 := by rw [← hlo, List.length_map, List.length_take]; omega
          have hlul : lu.length ≤ 4096 := by rw [← hlu, List.length_map, List.length_take]; omega
          obtain ⟨A7, c7, rfl, hc7, _⟩ := OB.slice HL.out.one
          obtain ⟨A8, c8, rfl, hc8, _⟩ := OB.slice HL.out.two
          clear hz hq hplr hpz hlo hlu hc7 hc8
          go_wp2_with fail
          refine hpl.out.mono ?_; rintro e wa ⟨rfl, hba⟩
          have HLA := Lib.hid (HL.out.under hba)
          clear hba hpl c0 c1 HL
          go_wp2_with (at_builtin; refine print_append_row (w0 := w) w.heap.size rfl (.tmp 55) (.tmp 58) 26 5 .u8 1 rfl Try.underlying26 infoU8 (by decide) (.slice A7 lo.length c7) lo [z] (some ⟨wa.heap.size, 0, none⟩) 1 1 rfl rfl (by exact OB.below HLA.out.one (below_alloc (Below.refl _ _) _)) (own_reads' (n := 1) (own_lit wa wa.heap.size 5 .u8 [z] (Nat.le_refl _) (by simp))) (below_alloc HLA.out.l1.below _) (below_alloc HLA.out.l1.below _).size (by omega) ?_; intro v6 w6 hown6 hb6 hg6 hat6; have HLB := Lib.hid ((HLA.out.under (below_alloc (Below.refl _ _) _)).step1 H.out.lt hown6 hb6 hg6 hat6); clear hown6 hb6 hg6 hat6)
          have hli := HPK.out.mayL (L.getD i P0) (getD_mem L i (by rw [HPK.out.lenL]; exact hlt))
          obtain ⟨l0, l1⟩ := HLB.out.l1.ch.atL i hlt
          obtain ⟨⟨sk, la⟩, hq⟩ : ∃ q, L.getD i P0 = q := ⟨_, rfl⟩
          have HLQ := Lib.hid hq
          rw [hq] at l0 l1 hli HN2
          simp only at l0 l1 hli
          obtain ⟨y, hy⟩ : ∃ y : Int, 16 * sk + la = y := ⟨_, rfl⟩
          have hyl : lcode (sk, la) = y := by unfold lcode; simp only; omega
          rw [hyl] at HN2
          have f1 : IntKind.u8.wrap (16 * sk) = 16 * sk := u8_wrap _ (by omega) (by omega)
          have f2 : 16 * sk % 256 = 16 * sk := by omega
          have f3 : IntKind.u8.wrap (16 * sk + la) = y := by rw [hy]; exact u8_wrap _ (by omega) (by omega)
          have f4 : (16 * sk + la) % 256 = y := by omega
          have f5 : IntKind.u8.wrap y = y := u8_wrap _ (by omega) (by omega)
          have f6 : y % 256 = y := by omega
          obtain ⟨A7', c7', rfl, hc7', _⟩ := OB.slice HLB.out.one
          clear hq hyl hli z2 z3 HLA hc7'
          go_wp2_with fail
          refine start_ (n := 20) (S := fun w' => w'.cell? ⟨g, 8192 + i * 2, none⟩ = some (.int .u8 sk) ∧ w'.cell? ⟨g, 8192 + i * 2 + 1, none⟩ = some (.int .u8 la)) (ds := []) #[false, false, false, false, false, false, false, false, false, false, false, false, false, false, false, false, false, false, false, false] (by kernel_rfl) rfl rfl ⟨l0, l1⟩ (fun hHeld => ?_)
          refine pure_ (i := 0) (N := some 60) (v := ?_) (a' := ?_) #[true, false, false, false, false, false, false, false, false, false, false, false, false, false, false, false, false, false, false, false] rfl rfl (by kernel_rfl) (fun _ _ _ h => h) (Or.inl ⟨by rfl, ?_⟩) ?_ ?_
          rotate_left
          · intro w'
            go_simp
            with_reducible rfl
          rotate_left
          · simp only [Act.put, List.setIfInBounds_toArray, List.set_cons_zero, List.set_cons_succ, i64_w, i32_w]
            rfl
          refine pure_ (i := 1) (N := some 61) (v := ?_) (a' := ?_) #[true, true, false, false, false, false, false, false, false, false, false, false, false, false, false, false, false, false, false, false] rfl rfl (by kernel_rfl) (fun _ _ _ h => h) (Or.inl ⟨by rfl, ?_⟩) ?_ ?_
          rotate_left
          · intro w'
            go_simp
            with_reducible rfl
          rotate_left
          · simp only [Act.put, List.setIfInBounds_toArray, List.set_cons_zero, List.set_cons_succ, i64_w, i32_w]
            rfl
          refine pure_ (i := 2) (N := some 62) (v := ?_) (a' := ?_) #[true, true, true, false, false, false, false, false, false, false, false, false, false, false, false, false, false, false, false, false] rfl rfl (by kernel_rfl) (fun _ _ _ h => h) (Or.inl ⟨by rfl, ?_⟩) ?_ ?_
          rotate_left
          · intro w'
            go_simp
            with_reducible rfl
          rotate_left
          · simp only [Act.put, List.setIfInBounds_toArray, List.set_cons_zero, List.set_cons_succ, i64_w, i32_w]
            rfl
          refine pure_ (i := 3) (N := some 63) (v := ?_) (a' := ?_) #[true, true, true, true, false, false, false, false, false, false, false, false, false, false, false, false, false, false, false, false] rfl rfl (by kernel_rfl) (fun _ _ _ h => h) (Or.inl ⟨by rfl, ?_⟩) ?_ ?_
          rotate_left
          · intro w'
            go_simp
            with_reducible rfl
          rotate_left
          · simp only [Act.put, List.setIfInBounds_toArray, List.set_cons_zero, List.set_cons_succ, i64_w, i32_w]
            rfl
          refine pure_ (i := 4) (N := some 64) (v := ?_) (a' := ?_) #[true, true, true, true, true, false, false, false, false, false, false, false, false, false, false, false, false, false, false, false] rfl rfl (by kernel_rfl) (fun _ _ _ h => h) (Or.inl ⟨by rfl, ?_⟩) ?_ ?_
          rotate_left
          · intro w'
            go_simp
            with_reducible rfl
          rotate_left
          · simp only [Act.put, List.setIfInBounds_toArray, List.set_cons_zero, List.set_cons_succ, i64_w, i32_w]
            rfl
          refine pure_ (i := 5) (N := some 65) (v := ?_) (a' := ?_) #[true, true, true, true, true, true, false, false, false, false, false, false, false, false, false, false, false, false, false, false] rfl rfl (by kernel_rfl) (fun _ _ _ h => h) (Or.inl ⟨by rfl, ?_⟩) ?_ ?_
          rotate_left
          · intro w'
            go_simp
            with_reducible rfl
          rotate_left
          · simp only [Act.put, List.setIfInBounds_toArray, List.set_cons_zero, List.set_cons_succ, i64_w, i32_w]
            rfl
          refine pure_ (i := 6) (N := some 66) (v := ?_) (a' := ?_) #[true, true, true, true, true, true, true, false, false, false, false, false, false, false, false, false, false, false, false, false] rfl rfl (by kernel_rfl) (fun _ _ _ h => h) (Or.inl ⟨by rfl, ?_⟩) ?_ ?_
          rotate_left
          · intro w'
            go_simp
            with_reducible rfl
          rotate_left
          · simp only [Act.put, List.setIfInBounds_toArray, List.set_cons_zero, List.set_cons_succ, i64_w, i32_w]
            rfl
          refine pure_ (i := 9) (N := some 69) (v := ?_) (a' := ?_) #[true, true, true, true, true, true, true, false, false, true, false, false, false, false, false, false, false, false, false, false] rfl rfl (by kernel_rfl) (fun _ _ _ h => h) (Or.inl ⟨by rfl, ?_⟩) ?_ ?_
          rotate_left
          · intro w'
            go_simp
            with_reducible rfl
          rotate_left
          · simp only [Act.put, List.setIfInBounds_toArray, List.set_cons_zero, List.set_cons_succ, i64_w, i32_w]
            rfl
          refine pure_ (i := 10) (N := some 70) (v := ?_) (a' := ?_) #[true, true, true, true, true, true, true, false, false, true, true, false, false, false, false, false, false, false, false, false] rfl rfl (by kernel_rfl) (fun _ _ _ h => h) (Or.inl ⟨by rfl, ?_⟩) ?_ ?_
          rotate_left
          · intro w'
            go_simp
            with_reducible rfl
          rotate_left
          · simp only [Act.put, List.setIfInBounds_toArray, List.set_cons_zero, List.set_cons_succ, i64_w, i32_w]
            rfl
          refine pure_ (i := 11) (N := some 71) (v := ?_) (a' := ?_) #[true, true, true, true, true, true, true, false, false, true, true, true, false, false, false, false, false, false, false, false] rfl rfl (by kernel_rfl) (fun _ _ _ h => h) (Or.inl ⟨by rfl, ?_⟩) ?_ ?_
          rotate_left
          · intro w'
            go_simp
            with_reducible rfl
          rotate_left
          · simp only [Act.put, List.setIfInBounds_toArray, List.set_cons_zero, List.set_cons_succ, i64_w, i32_w]
            rfl
          refine pure_ (i := 12) (N := some 72) (v := ?_) (a' := ?_) #[true, true, true, true, true, true, true, false, false, true, true, true, true, false, false, false, false, false, false, false] rfl rfl (by kernel_rfl) (fun _ _ _ h => h) (Or.inl ⟨by rfl, ?_⟩) ?_ ?_
          rotate_left
          · intro w'
            go_simp
            with_reducible rfl
          rotate_left
          · simp only [Act.put, List.setIfInBounds_toArray, List.set_cons_zero, List.set_cons_succ, i64_w, i32_w]
            rfl
          refine pure_ (i := 13) (N := some 73) (v := ?_) (a' := ?_) #[true, true, true, true, true, true, true, false, false, true, true, true, true, true, false, false, false, false, false, false] rfl rfl (by kernel_rfl) (fun _ _ _ h => h) (Or.inl ⟨by rfl, ?_⟩) ?_ ?_
          rotate_left
          · intro w'
            go_simp
            with_reducible rfl
          rotate_left
          · simp only [Act.put, List.setIfInBounds_toArray, List.set_cons_zero, List.set_cons_succ, i64_w, i32_w]
            rfl
          refine pure_ (i := 14) (N := some 74) (v := ?_) (a' := ?_) #[true, true, true, true, true, true, true, false, false, true, true, true, true, true, true, false, false, false, false, false] rfl rfl (by kernel_rfl) (fun _ _ _ h => h) (Or.inl ⟨by rfl, ?_⟩) ?_ ?_
          rotate_left
          · intro w'
            go_simp
            with_reducible rfl
          rotate_left
          · simp only [Act.put, List.setIfInBounds_toArray, List.set_cons_zero, List.set_cons_succ, i64_w, i32_w]
            rfl
          refine take_ (i := 7) (N := some 67) (v := ?_) (a' := ?_) #[true, true, true, true, true, true, true, true, false, true, true, true, true, true, true, false, false, false, false, false] rfl rfl (by kernel_rfl) (fun _ _ _ h => h) (Or.inl ⟨by rfl, ?_⟩) hHeld ?_ ?_
          rotate_left
          · rintro w' ⟨s0, s1⟩
            go_simp
            with_reducible rfl
          rotate_left
          · simp only [Act.put, List.setIfInBounds_toArray, List.set_cons_zero, List.set_cons_succ, i64_w, i32_w]
            rfl
          refine pure_ (i := 8) (N := some 68) (v := ?_) (a' := ?_) #[true, true, true, true, true, true, true, true, true, true, true, true, true, true, true, false, false, false, false, false] rfl rfl (by kernel_rfl) (fun _ _ _ h => h) (Or.inl ⟨by rfl, ?_⟩) ?_ ?_
          rotate_left
          · intro w'
            go_simp
            with_reducible rfl
          rotate_left
          · simp only [Act.put, List.setIfInBounds_toArray, List.set_cons_zero, List.set_cons_succ, i64_w, i32_w]
            rfl
          refine take_ (i := 15) (N := some 75) (v := ?_) (a' := ?_) #[true, true, true, true, true, true, true, true, true, true, true, true, true, true, true, true, false, false, false, false] rfl rfl (by kernel_rfl) (fun _ _ _ h => h) (Or.inl ⟨by rfl, ?_⟩) hHeld ?_ ?_
          rotate_left
          · rintro w' ⟨s0, s1⟩
            go_simp
            with_reducible rfl
          rotate_left
          · simp only [Act.put, List.setIfInBounds_toArray, List.set_cons_zero, List.set_cons_succ, i64_w, i32_w]
            rfl
          refine pure_ (i := 16) (N := some 76) (v := ?_) (a' := ?_) #[true, true, true, true, true, true, true, true, true, true, true, true, true, true, true, true, true, false, false, false] rfl rfl (by kernel_rfl) (fun _ _ _ h => h) (Or.inl ⟨by rfl, ?_⟩) ?_ ?_
          rotate_left
          · intro w'
            go_simp
            with_reducible rfl
          rotate_left
          · simp only [Act.put, List.setIfInBounds_toArray, List.set_cons_zero, List.set_cons_succ, i64_w, i32_w]
            rfl
          refine one_ (i := 17) (N := some 77) #[true, true, true, true, true, true, true, true, true, true, true, true, true, true, true, true, true, true, false, false] rfl rfl (by kernel_rfl) (by decide) (fun K hK => ?_)
          refine value_ (w1 := ?_) (v := ?_) (by rfl) rfl ?_ ?_
          rotate_left 2
          · go_simp
            constructor
            · rfl
            · rfl
          refine hK.out _ _ ⟨(Lib.Below.cellOf (below_drew (below_alloc (Below.refl _ w6) _)) l0 (Nat.le_refl _)), (Lib.Below.cellOf (below_drew (below_alloc (Below.refl _ w6) _)) l1 (Nat.le_refl _))⟩ (fun hHeld => ?_)
          clear hK K
          refine norm_ (a' := ?_) ?_ ?_
          rotate_left
          · show Act.put _ (some 77) _ = _
            simp only [Act.put, List.setIfInBounds_toArray, List.set_cons_zero, List.set_cons_succ, i64_w, i32_w]
            rfl
          refine one_ (i := 18) (N := some 78) #[true, true, true, true, true, true, true, true, true, true, true, true, true, true, true, true, true, true, true, false] rfl rfl (by kernel_rfl) (by decide) (fun K hK => ?_)
          refine Kd.R_append_rows_step (Kd.int .u8) (Rr := fun x cs => cs = [.int .u8 x]) w.heap.size (by rfl) (.tmp 60) (.tmp 77) 26 5 (.int .u8 0) 1 rfl Try.underlying26 infoU8 (by rfl) (by decide) (by decide) (.slice A8 lu.length c8) lu [y] (some ⟨w6.heap.size, 0, none⟩) 1 1 (fun _ => True) (fun _ => False) rfl rfl (Kd.R_of_own (OB.below HLB.out.two (below_alloc (below_drew (Below.refl _ _)) _)) (fun _ _ => trivial)) (Kd.C_of_reads (d := (0 : Int)) (h1 := fun _ => rfl) (own_reads' (n := 1) (own_lit w6.drew w6.heap.size 5 .u8 [y] (Nat.le_refl _) (by simp)))) (fun x cs h => h) (fun _ h => h.elim) (fun _ _ => trivial) (below_alloc (below_drew HLB.out.l1.below) _) (below_alloc (below_drew HLB.out.l1.below) _).size (by omega) ?_
          intro v9 w9 hr9 hb9 hg9 hat9
          have HN9 := Lib.hid ((HLB.out.under (below_alloc (below_drew (Below.refl _ w6)) (.cells #[.int .u8 y] 5))).step2 H.out.lt (OB.of_R hr9) hb9 hg9 hat9)
          obtain ⟨s2, s3⟩ := HN9.out.l1.ch.atL i hlt
          rw [HLQ.out] at s2 s3
          clear hr9 hb9 hg9 hat9
          refine hK.out _ _ ⟨s2, s3⟩ (fun hHeld => ?_)
          clear hK K
          refine norm_ (a' := ?_) ?_ ?_
          rotate_left
          · show Act.put _ (some 78) _ = _
            simp only [Act.put, List.setIfInBounds_toArray, List.set_cons_zero, List.set_cons_succ, i64_w, i32_w]
            rfl
          refine pure_ (i := 19) (N := some 8) (v := ?_) (a' := ?_) #[true, true, true, true, true, true, true, true, true, true, true, true, true, true, true, true, true, true, true, true] rfl rfl (by kernel_rfl) (fun _ _ _ h => h) (Or.inl ⟨by rfl, ?_⟩) ?_ ?_
          rotate_left
          · intro w'
            go_simp
            with_reducible rfl
          rotate_left
          · simp only [Act.put, List.setIfInBounds_toArray, List.set_cons_zero, List.set_cons_succ, i64_w, i32_w]
            rfl
          refine done_ (by kernel_rfl) ?_
          have HN := Lib.hid (show L2 w w9 g C L (.slice A T.length c) (.slice A3 P.length c3) u5 P ([(P.length : Int)] ++ pBytes P) _ v9 ((C.take (i + 1)).map (pl P)) ((L.take (i + 1)).map lcode) from by
            rw [HN1.out, HN2.out]
            exact HN9.out)
          clear HN9 HLB f1 f2 f3 f4 f5 f6 hy l0 l1
          go_wp2
          go_roundw
          case rel => exact ⟨i + 1, by omega, by go_num, ⟨HN.out⟩⟩
          case measure => simp [intOf]; omega
        · obtain rfl : i = 4096 := by omega
          have hd := decide_eq_false (show ¬ ((4096 : Nat) : Int) < 4096 by decide)
          have e1 : C.take 4096 = C := List.take_of_length_le (by rw [HPK.out.lenC]; exact Nat.le_refl _)
          have e2 : L.take 4096 = L := List.take_of_length_le (by rw [HPK.out.lenL]; exact Nat.le_refl _)
          have e3 : C.map (pl P) = (codes C).2 := by rw [← HPP.out, ← codes_pl]
          rw [e1, e2, e3] at HL
          clear e1 e2 e3 hlt hi
          obtain ⟨D, hD⟩ : ∃ D, (codes C).2 = D := ⟨_, rfl⟩
          obtain ⟨E, hE⟩ : ∃ E, L.map lcode = E := ⟨_, rfl⟩
          have hDl : D.length = 4096 := by rw [← hD, codes_len, HPK.out.lenC]
          have hEl : E.length = 4096 := by rw [← hE, List.length_map, HPK.out.lenL]
          have hKB := Lib.hid (show packB C L T = ([(P.length : Int)] ++ pBytes P) ++ RU.row D ++ RU.row E ++ num T.length ++ tBytes (-1) T from by rw [← hD, ← hE, ← HPP.out]; rfl)
          have hrD := row_le D (by omega)
          have hrE := row_le E (by omega)
          rw [hDl] at hrD
          rw [hEl] at hrE
          have HDL := Lib.hid hDl
          have HEL := Lib.hid hEl
          clear hDl hEl
          rw [hD, hE] at HL
          obtain ⟨lb, hlb⟩ : ∃ lb, [(P.length : Int)] ++ pBytes P = lb := ⟨_, rfl⟩
          have hlbl : lb.length ≤ 1000 := by rw [← hlb, List.length_append, pBytes_len]; simp; omega
          rw [hlb] at HL hKB
          obtain ⟨A7, c7, hu7, hc7, hr7⟩ := OB.slice HL.out.one
          subst hu7
          have hput1 := Lib.hid (refPut_calls A7 c7 D wr (by rw [HDL.out]; decide) hr7 hc7)
          clear hD hE hlb hc7 hr7
          go_wp2_with fail
          refine hput1.out.mono ?_; rintro e wa ⟨va, rfl, hoa, hba⟩
          obtain ⟨Aa, ca, rfl, hca, hra⟩ := OB.slice hoa
          have HLA := Lib.hid (HL.out.under hba)
          have HRA := Lib.hid hra
          clear hoa hba hca hra hput1 HL
          go_upto_region 19 with (at_builtin; refine print_append_row (w0 := w) w.heap.size rfl (.tmp 79) (.tmp 81) 26 5 .u8 1 rfl Try.underlying26 infoU8 (by decide) u5 lb (RU.row D) Aa (RU.row D).length ca rfl rfl HLA.out.l1.ob HRA.out HLA.out.l1.below HLA.out.l1.below.size (by omega) ?_; intro v6 w6 hown6 hb6 hg6 hat6; have HO6 := Lib.hid hown6; have HB6 := Lib.hid hb6; have HE6 := Lib.hid (OB.grownO HLA.out.two hg6 HLA.out.d4.symm); have HD6 := Lib.hid ((Dj.fresh HLA.out.two HLA.out.d4.symm hat6)); clear hown6 hb6 hg6 hat6)
          obtain ⟨A8, c8, hu8, hc8, hr8⟩ := OB.slice HE6.out
          subst hu8
          have hput2 := Lib.hid (refPut_calls A8 c8 E w6 (by rw [HEL.out]; decide) hr8 hc8)
          clear hc8 hr8 HRA HLA
          go_wp2_with fail
          refine hput2.out.mono ?_; rintro e wb ⟨vb, rfl, hob, hbb⟩
          obtain ⟨Ab, cb, rfl, hcb, hrb⟩ := OB.slice hob
          have HBB := Lib.hid (below_step HB6.out hbb)
          have HOB := Lib.hid (OB.below HO6.out hbb)
          have HRB := Lib.hid hrb
          clear hob hbb hcb hrb hput2 HE6 HD6 HO6
          obtain ⟨M1, hM1⟩ : ∃ M1, lb ++ RU.row D = M1 := ⟨_, rfl⟩
          have hM1l : M1.length ≤ 10000 := by rw [← hM1, List.length_append]; omega
          rw [hM1] at HOB hKB
          go_upto_region 20 with (at_builtin; refine print_append_row (w0 := w) w.heap.size rfl (.tmp 83) (.tmp 85) 26 5 .u8 1 rfl Try.underlying26 infoU8 (by decide) v6 M1 (RU.row E) Ab (RU.row E).length cb rfl rfl HOB.out HRB.out HBB.out HBB.out.size (by omega) ?_; intro v7 w7 hown7 hb7 hg7 hat7; have HO7 := Lib.hid hown7; have HB7 := Lib.hid hb7; clear hown7 hb7 hg7 hat7)
          obtain ⟨M2, hM2⟩ : ∃ M2, M1 ++ RU.row E = M2 := ⟨_, rfl⟩
          have hM2l : M2.length ≤ 20000 := by rw [← hM2, List.length_append]; omega
          rw [hM2] at HO7 hKB
          have HO7' := Lib.hid (show OB w7 w.heap.size v7 M2 from HO7.out)
          have t7 := (H.out.below HB7.out H.out.lt).atT
          have hnum := Lib.hid (refNum_calls T.length w7 (by omega))
          have k3 : IntKind.u64.wrap (T.length : Int) = (T.length : Int) := CF.wu64_id _ (by omega) (by omega)
          clear HOB HRB hM1 hM2 HO7
          go_wp2_with fail
          refine hnum.out.mono ?_; rintro e wc ⟨vc, rfl, hoc, hbc⟩
          obtain ⟨Ac, cc, rfl, hcc, hrc⟩ := OB.slice hoc
          have HBC := Lib.hid (below_step HB7.out hbc)
          have HOC := Lib.hid (OB.below HO7'.out hbc)
          have HRC := Lib.hid hrc
          have hnl := num_le T.length
          clear hoc hbc hcc hrc hnum HO7' k3 t7
          go_upto_region 21 with (at_builtin; refine print_append_row (w0 := w) w.heap.size rfl (.tmp 87) (.tmp 94) 26 5 .u8 1 rfl Try.underlying26 infoU8 (by decide) v7 M2 (num T.length) Ac (num T.length).length cc rfl rfl HOC.out HRC.out HBC.out HBC.out.size (by omega) ?_; intro v8 w8 hown8 hb8 hg8 hat8; have HO8 := Lib.hid hown8; have HB8 := Lib.hid hb8; clear hown8 hb8 hg8 hat8)
          obtain ⟨M3, hM3⟩ : ∃ M3, M2 ++ num T.length = M3 := ⟨_, rfl⟩
          have hM3l : M3.length ≤ 21000 := by rw [← hM3, List.length_append]; omega
          rw [hM3] at HO8 hKB
          have HO8' := Lib.hid (show OB w8 w.heap.size v8 M3 from HO8.out)
          clear HOC HRC hM3 HO8 hnl
          go_wp2_with fail
          go_loopw [5, 11] (fun bv iv W => ∃ j : Nat, j ≤ T.length ∧ iv = .int .i64 (j : Int) ∧ Aside0 (OB W w.heap.size bv (M3 ++ tBytes (-1) (T.take j)) ∧ Below w.heap.size w W)) (fun _ iv _ => T.length - (intOf iv).toNat)
          case atStart => exact ⟨0, by omega, rfl, ⟨by rw [show M3 ++ tBytes (-1) (T.take 0) = M3 by simp [tBytes]]; exact HO8'.out, HB8.out⟩⟩
          case round =>
            obtain ⟨j, hj, rfl, ⟨hob, hb⟩⟩ := hrel
            have HOB := Lib.hid hob
            have HBj := Lib.hid hb
            have t7 := (H.out.below hb H.out.lt).atT
            by_cases hjl : j < T.length
            · have hd2 := decide_eq_true (show (j : Int) < (T.length : Int) by omega)
              obtain ⟨ad, rfl, t0, t1⟩ := tick_at (Kd.C_below HT.out hb) j hjl
              have hta := tOk_at T (may_tick HPK.out.may) j hjl
              have HSN := Lib.hid (tBytes_next T j hjl)
              obtain ⟨⟨ta, td⟩, hti⟩ : ∃ q, T.getD j P0 = q := ⟨_, rfl⟩
              have HTI := Lib.hid hti
              rw [hti] at t0 t1 hta HSN
              simp only at hta HSN
              obtain ⟨n1, hn1⟩ : ∃ n1 : Nat, (n1 : Int) = ta - wasAt T j - 1 := ⟨(ta - wasAt T j - 1).toNat, by omega⟩
              obtain ⟨n2, hn2⟩ : ∃ n2 : Nat, (n2 : Int) = td := ⟨td.toNat, by omega⟩
              have hn1l : n1 < 5000 := by omega
              have hn2l : n2 < 3000000000000 := by omega
              rw [show (ta - wasAt T j - 1).toNat = n1 by omega, show td.toNat = n2 by omega] at HSN
              obtain ⟨M4, hM4⟩ : ∃ M4, M3 ++ tBytes (-1) (T.take j) = M4 := ⟨_, rfl⟩
              have hM4l : M4.length ≤ 100000000 := by
                rw [← hM4, List.length_append]
                have := tBytes_le (T.take j) (-1) (by omega) (tOk_take T (-1) (may_tick HPK.out.may) j)
                rw [List.length_take] at this
                omega
              rw [hM4] at HOB
              have HM4 := Lib.hid hM4
              obtain ⟨A5, c5, hu5, hc5, hr5⟩ := OB.slice HOB.out
              have q1 : (0 ≤ (j : Int)) = True := eq_true (by omega)
              have q2 : ((j : Int) < (T.length : Int)) = True := eq_true (by omega)
              have hnum1 := Lib.hid (fun W => refNum_calls n1 W (by omega))
              have hnum2 := Lib.hid (fun W => refNum_calls n2 W (by omega))
              have hnl1 := num_le n1
              have hnl2 := num_le n2
              have k4 : IntKind.u64.wrap (n1 : Int) = (n1 : Int) := CF.wu64_id _ (by omega) (by omega)
              have k5 : IntKind.u64.wrap (n2 : Int) = (n2 : Int) := CF.wu64_id _ (by omega) (by omega)
              clear hob hb hti hM4 hr5 hc5 hu5
              obtain rfl : (n2 : Int) = td := hn2
              by_cases hj0 : j = 0
              · have hw : wasAt T j = -1 := by rw [hj0]; rfl
                obtain rfl : (n1 : Int) = ta := by omega
                have z4 := decide_eq_false (show ¬ (0 : Int) < (j : Int) by omega)
                have z5 : decide (0 < j) = false := decide_eq_false (by omega)
                clear hw hta hn1 hj0
                go_wp2_with fail
                refine (hnum1.out _).mono ?_; rintro e wd ⟨vd, rfl, hod, hbd⟩
                obtain ⟨Ad, cd, rfl, hcd, hrd⟩ := OB.slice hod
                have HBD := Lib.hid (below_step HBj.out hbd)
                have HOD := Lib.hid (OB.below HOB.out hbd)
                have HRD := Lib.hid hrd
                clear hod hbd hcd hrd t7 t0 t1
                go_upto_region 28 with (at_builtin; refine print_append_row (w0 := w) w.heap.size rfl (.tmp 127) (.tmp 130) 26 5 .u8 1 rfl Try.underlying26 infoU8 (by decide) u5 M4 (num n1) Ad (num n1).length cd rfl rfl HOD.out HRD.out HBD.out HBD.out.size (by omega) ?_; intro v9 w9 hown9 hb9 hg9 hat9; have HO9 := Lib.hid hown9; have HB9 := Lib.hid hb9; clear hown9 hb9 hg9 hat9)
                obtain ⟨M5, hM5⟩ : ∃ M5, M4 ++ num n1 = M5 := ⟨_, rfl⟩
                have hM5l : M5.length ≤ 100000010 := by rw [← hM5, List.length_append]; omega
                have HO9' := Lib.hid (show OB w9 w.heap.size v9 M5 from by rw [← hM5]; exact HO9.out)
                have HM5 := Lib.hid hM5
                have t7 := (H.out.below HB9.out H.out.lt).atT
                obtain ⟨ad5, had5, _, t1⟩ := tick_at (Kd.C_below HT.out HB9.out) j hjl
                obtain rfl : ad = ad5 := Option.some.inj had5
                rw [HTI.out] at t1
                clear HOD HRD HO9 hM5 had5
                go_wp2_with fail
                refine (hnum2.out _).mono ?_; rintro e we ⟨ve, rfl, hoe, hbe⟩
                obtain ⟨Ae, ce, rfl, hce, hre⟩ := OB.slice hoe
                have HBE := Lib.hid (below_step HB9.out hbe)
                have HOE := Lib.hid (OB.below HO9'.out hbe)
                have HRE := Lib.hid hre
                clear hoe hbe hce hre t7 t1
                go_wp2_with (at_builtin; refine print_append_row (w0 := w) w.heap.size rfl (.tmp 132) (.tmp 142) 26 5 .u8 1 rfl Try.underlying26 infoU8 (by decide) v9 M5 (num n2) Ae (num n2).length ce rfl rfl HOE.out HRE.out HBE.out HBE.out.size (by omega) ?_; intro v10 w10 hown10 hb10 hg10 hat10; have HO10 := Lib.hid hown10; have HB10 := Lib.hid hb10; clear hown10 hb10 hg10 hat10)
                have HN := Lib.hid (show OB w10 w.heap.size v10 (M3 ++ tBytes (-1) (T.take (j + 1))) from by
                  rw [HSN.out, ← List.append_assoc, HM4.out, ← List.append_assoc, HM5.out]
                  exact HO10.out)
                clear HOE HRE HO10
                go_roundw
                case rel => exact ⟨j + 1, by omega, by go_num, ⟨HN.out, HB10.out⟩⟩
                case measure => simp [intOf]; omega
              · obtain ⟨jm, hjm⟩ : ∃ jm, j = jm + 1 := ⟨j - 1, by omega⟩
                obtain ⟨ad', had, t2, _⟩ := tick_at (Kd.C_below HT.out HBj.out) jm (by omega)
                obtain rfl : ad = ad' := Option.some.inj had
                obtain ⟨tp, htp⟩ : ∃ tp, (T.getD jm P0).1 = tp := ⟨_, rfl⟩
                rw [htp] at t2
                have hw : wasAt T j = tp := by rw [hjm]; exact htp
                have z1 : (j : Int) - 1 = (jm : Int) := by omega
                have z2 : ta - tp - 1 = (n1 : Int) := by omega
                have z4 := decide_eq_true (show (0 : Int) < (j : Int) by omega)
                have z5 : decide (0 < j) = true := decide_eq_true (by omega)
                have q3 : (0 ≤ (jm : Int)) = True := eq_true (by omega)
                have q4 : ((jm : Int) < (T.length : Int)) = True := eq_true (by omega)
                have b1 : -1 ≤ ta ∧ ta < 4096 := by omega
                have b2 : -1 ≤ tp ∧ tp < 4096 := by omega
                clear htp had hj0 hjm hw hta hn1
                go_wp2_with fail
                refine (hnum1.out _).mono ?_; rintro e wd ⟨vd, rfl, hod, hbd⟩
                obtain ⟨Ad, cd, rfl, hcd, hrd⟩ := OB.slice hod
                have HBD := Lib.hid (below_step HBj.out hbd)
                have HOD := Lib.hid (OB.below HOB.out hbd)
                have HRD := Lib.hid hrd
                clear hod hbd hcd hrd t7 t0 t1
                go_upto_region 28 with (at_builtin; refine print_append_row (w0 := w) w.heap.size rfl (.tmp 127) (.tmp 130) 26 5 .u8 1 rfl Try.underlying26 infoU8 (by decide) u5 M4 (num n1) Ad (num n1).length cd rfl rfl HOD.out HRD.out HBD.out HBD.out.size (by omega) ?_; intro v9 w9 hown9 hb9 hg9 hat9; have HO9 := Lib.hid hown9; have HB9 := Lib.hid hb9; clear hown9 hb9 hg9 hat9)
                obtain ⟨M5, hM5⟩ : ∃ M5, M4 ++ num n1 = M5 := ⟨_, rfl⟩
                have hM5l : M5.length ≤ 100000010 := by rw [← hM5, List.length_append]; omega
                have HO9' := Lib.hid (show OB w9 w.heap.size v9 M5 from by rw [← hM5]; exact HO9.out)
                have HM5 := Lib.hid hM5
                have t7 := (H.out.below HB9.out H.out.lt).atT
                obtain ⟨ad5, had5, _, t1⟩ := tick_at (Kd.C_below HT.out HB9.out) j hjl
                obtain rfl : ad = ad5 := Option.some.inj had5
                rw [HTI.out] at t1
                clear HOD HRD HO9 hM5 had5
                go_wp2_with fail
                refine (hnum2.out _).mono ?_; rintro e we ⟨ve, rfl, hoe, hbe⟩
                obtain ⟨Ae, ce, rfl, hce, hre⟩ := OB.slice hoe
                have HBE := Lib.hid (below_step HB9.out hbe)
                have HOE := Lib.hid (OB.below HO9'.out hbe)
                have HRE := Lib.hid hre
                clear hoe hbe hce hre t7 t1
                go_wp2_with (at_builtin; refine print_append_row (w0 := w) w.heap.size rfl (.tmp 132) (.tmp 142) 26 5 .u8 1 rfl Try.underlying26 infoU8 (by decide) v9 M5 (num n2) Ae (num n2).length ce rfl rfl HOE.out HRE.out HBE.out HBE.out.size (by omega) ?_; intro v10 w10 hown10 hb10 hg10 hat10; have HO10 := Lib.hid hown10; have HB10 := Lib.hid hb10; clear hown10 hb10 hg10 hat10)
                have HN := Lib.hid (show OB w10 w.heap.size v10 (M3 ++ tBytes (-1) (T.take (j + 1))) from by
                  rw [HSN.out, ← List.append_assoc, HM4.out, ← List.append_assoc, HM5.out]
                  exact HO10.out)
                clear HOE HRE HO10
                go_roundw
                case rel => exact ⟨j + 1, by omega, by go_num, ⟨HN.out, HB10.out⟩⟩
                case measure => simp [intOf]; omega
            · obtain rfl : j = T.length := by omega
              have hd2 := decide_eq_false (show ¬ (T.length : Int) < (T.length : Int) by omega)
              rw [List.take_length, ← hKB.out] at HOB
              clear hob hb
              go_wp2
              go_ret2
              exact ⟨_, rfl, HOB.out, HBj.out⟩
end Go.Proofs.Ytkecppgodmbmlaa.PK

namespace Go.Proofs.Ytkecppgodmbmlaa.PK
open Go.RowKit Go.Proofs.YtkecppgodmbmlaaW.PrintWords Go.Proofs.YtkecppgodmbmlaaW.PrintLast Go.Proofs.YtkecppgodmbmlaaW.PrintMore Go.Proofs.Ytkecppgodmbmlaa.CD Go.Proofs.Ytkecppgodmbmlaa.BR
set_option linter.unusedVariables false
set_option linter.unusedSimpArgs false
theorem mapM_some {α β : Type} (f : α → Option β) (g : α → β) : ∀ (l : List α), (∀ x ∈ l, f x = some (g x)) → l.mapM f = some (l.map g)
  | [], _ => rfl
  | x :: l, h => by
    rw [List.mapM_cons, h x List.mem_cons_self, mapM_some f g l (fun y hy => h y (List.mem_cons_of_mem _ hy))]
    rfl
theorem lits_u8 (d : Nat) (a : Int) (ha : 0 ≤ a ∧ a < 256) : Try.prog.keyLits (d + 1) 5 [.int .u8 a] = some [.int .u8 a] := by
  unfold Program.keyLits
  rw [Try.underlying5]
  simp only
  rw [if_pos]
  refine ⟨trivial, ?_⟩
  simp [Lit.wf, IntKind.min, IntKind.max, IntKind.signed, IntKind.bits]
  omega
theorem cellsCell : Try.prog.cellsOf 34 = 2 := by kernel_rfl
theorem cellsLight : Try.prog.cellsOf 36 = 2 := by kernel_rfl
theorem cellsU8 : Try.prog.cellsOf 5 = 1 := by kernel_rfl
theorem cellsArrC : Try.prog.cellsOf 43 = 8192 := by kernel_rfl
theorem cellsArrL : Try.prog.cellsOf 44 = 8192 := by kernel_rfl
theorem lits_cell (p : Pr) (hp : (0 ≤ p.1 ∧ p.1 < 256) ∧ 0 ≤ p.2 ∧ p.2 < 256) : Try.prog.keyLits 2 34 [.int .u8 p.1, .int .u8 p.2] = some [.int .u8 p.1, .int .u8 p.2] := by
  unfold Program.keyLits
  rw [Try.underlying34]
  simp only
  rw [if_pos ⟨by rw [cellsCell]; rfl, by decide +kernel⟩, mapM_some _ (fun f => if f.offset = 0 then [.int .u8 p.1] else [.int .u8 p.2])]
  · rfl
  · intro f hf
    simp only [List.mem_cons, List.not_mem_nil, or_false] at hf
    rcases hf with rfl | rfl
    · simp only [cellsU8]
      exact lits_u8 0 p.1 hp.1
    · simp only [cellsU8]
      exact lits_u8 0 p.2 hp.2
theorem lits_light (p : Pr) (hp : (0 ≤ p.1 ∧ p.1 < 256) ∧ 0 ≤ p.2 ∧ p.2 < 256) : Try.prog.keyLits 2 36 [.int .u8 p.1, .int .u8 p.2] = some [.int .u8 p.1, .int .u8 p.2] := by
  unfold Program.keyLits
  rw [Try.underlying36]
  simp only
  rw [if_pos ⟨by rw [cellsLight]; rfl, by decide +kernel⟩, mapM_some _ (fun f => if f.offset = 0 then [.int .u8 p.1] else [.int .u8 p.2])]
  · rfl
  · intro f hf
    simp only [List.mem_cons, List.not_mem_nil, or_false] at hf
    rcases hf with rfl | rfl
    · simp only [cellsU8]
      exact lits_u8 0 p.1 hp.1
    · simp only [cellsU8]
      exact lits_u8 0 p.2 hp.2
def pairLits (C : List Pr) (i : Nat) : List Lit := [.int .u8 (C.getD i P0).1, .int .u8 (C.getD i P0).2]
theorem lits_arrC (C : List Pr) (hC : C.length = 4096) (hu : U8 C) : Try.prog.keyLits 3 43 (flat C) = some ((List.range 4096).map (pairLits C)).flatten := by
  unfold Program.keyLits
  rw [Try.underlying43]
  simp only
  rw [if_pos (by rw [flat_length, hC, cellsArrC]), cellsCell, mapM_some _ (pairLits C)]
  · rfl
  · intro i hi
    have hi := List.mem_range.1 hi
    rw [flat_pair C i (by omega)]
    exact lits_cell _ (hu.at_ i (by omega))
theorem lits_arrL (C : List Pr) (hC : C.length = 4096) (hu : U8 C) : Try.prog.keyLits 3 44 (flat C) = some ((List.range 4096).map (pairLits C)).flatten := by
  unfold Program.keyLits
  rw [Try.underlying44]
  simp only
  rw [if_pos (by rw [flat_length, hC, cellsArrL]), cellsLight, mapM_some _ (pairLits C)]
  · rfl
  · intro i hi
    have hi := List.mem_range.1 hi
    rw [flat_pair C i (by omega)]
    exact lits_light _ (hu.at_ i (by omega))
theorem eq_arrC (C : List Pr) (hC : C.length = 4096) (hu : U8 C) (W : World) : (Op.equalIn 10000 43 (.agg (flat C).toArray) (.agg (flat C).toArray)).run Try.prog W = .ok true W := by
  have hf : (Value.agg (flat C).toArray).formed Try.prog 43 = true := by
    simp [Value.formed, Try.underlying43, cellsArrC, flat_length, hC]
  obtain ⟨r, hr, hi⟩ := run_equalIn_deep (P := Try.prog) 9997 3 43 (by kernel_rfl) W 3 3 _ _ _ _ hf hf (lits_arrC C hC hu) (lits_arrC C hC hu)
  rw [hi.2 rfl] at hr
  exact hr
theorem eq_arrL (C : List Pr) (hC : C.length = 4096) (hu : U8 C) (W : World) : (Op.equalIn 10000 44 (.agg (flat C).toArray) (.agg (flat C).toArray)).run Try.prog W = .ok true W := by
  have hf : (Value.agg (flat C).toArray).formed Try.prog 44 = true := by
    simp [Value.formed, Try.underlying44, cellsArrL, flat_length, hC]
  obtain ⟨r, hr, hi⟩ := run_equalIn_deep (P := Try.prog) 9997 3 44 (by kernel_rfl) W 3 3 _ _ _ _ hf hf (lits_arrL C hC hu) (lits_arrL C hC hu)
  rw [hi.2 rfl] at hr
  exact hr
theorem chunk_rangeL {w : World} {g : Nat} {C L : List Pr} {v : Value} (h : Chunk w g C L v) : w.rangeAt g 8192 (flat L) := fun j u hu => by
  have hj := (List.getElem?_eq_some_iff.1 hu).1
  rw [flat_length, h.lenL] at hj
  rw [blk_cell h.blk, List.getElem?_toArray, cells_off C L v h.lenC h.lenL j (by omega)]
  exact hu
theorem exec_load {P : Program} {o : Oper} {ev : Operand → Value} {w : World} {ty : TypeId} {x : Operand} {pv v : Value} (ho : o.op = .load ty x) (hx : ev x = pv) (h : (Instr.loadAt ty pv).run P w = .ok v w) : (execOp ev o).run P w = .ok (.value v) w := by
  unfold execOp
  simp only [ho, hx, Sem.run_bind, Sem.run_pure, h, Result.andThen_ok]
theorem eq_tick (p q : Pr) (W : World) : (Op.equalIn 10000 48 (.agg #[.int .i64 p.1, .int .i64 p.2]) (.agg #[.int .i64 q.1, .int .i64 q.2])).run Try.prog W = .ok (p.1 == q.1 && (p.2 == q.2)) W := by
  refine eqA_of (d := 9999) Try.underlying48 (by kernel_rfl) ?_
  refine eqf_cons (by rfl) (by go_simp; rfl) (by go_simp; rfl) (by go_simp) ?_
  exact eqf_last (by rfl) (by go_simp; rfl) (by go_simp; rfl) (by go_simp)
set_option maxHeartbeats 2000000 in
set_option maxRecDepth 100000 in
theorem same_calls (g1 g2 : Nat) (C L T : List Pr) (v1 v2 : Value) (w : World) (h1 : Chunk w g1 C L v1) (h2 : Chunk w g2 C L v2) (hC : U8 C) (hL : U8 L) (k1 : TK w v1 T) (k2 : TK w v2 T) (hT : T.length ≤ 1000000) :
    Calls Try.prog 20 #[.pointer (some ⟨g1, 0, none⟩), .pointer (some ⟨g2, 0, none⟩)] w fun e w' => e = .returned (.bool true) ∧ Below w.heap.size w w' := by
  obtain ⟨A1, c1, rfl, hc1, hk1⟩ := k1
  obtain ⟨A2, c2, rfl, hc2, hk2⟩ := k2
  have H1 := Lib.hid h1
  have H2 := Lib.hid h2
  have HK1 := Lib.hid hk1
  have HK2 := Lib.hid hk2
  have q1 := eq_arrC C h1.lenC hC
  have q2 := eq_arrL L h1.lenL hL
  have q3 : Try.prog.eqGuardType Try.prog.depth 43 = false := by kernel_rfl
  have q4 : Try.prog.eqGuardType Try.prog.depth 44 = false := by kernel_rfl
  have r1 := chunk_range h1
  have r2 := chunk_range h2
  have r3 := chunk_rangeL h1
  have r4 := chunk_rangeL h2
  have t1 := h1.atT
  have t2 := h2.atT
  have n1 : (Try.prog.info? 43).map (·.size) = some (flat C).length := by rw [flat_length, h1.lenC]; kernel_rfl
  have n2 : (Try.prog.info? 44).map (·.size) = some (flat L).length := by rw [flat_length, h1.lenL]; kernel_rfl
  have d1 : TypeDesc.isRow (.array 4096 34) = true := rfl
  have hu1 := Try.underlying43
  have hu2 := Try.underlying44
  have j1 := run_loadAt_mid (P := Try.prog) w.drew g1 0 43 (flat C) _ r1 Try.underlying43 rfl n1
  have j2 := run_loadAt_mid (P := Try.prog) w.drew g2 0 43 (flat C) _ r2 Try.underlying43 rfl n1
  have j3 := run_loadAt_mid (P := Try.prog) w.drew g1 8192 44 (flat L) _ r3 Try.underlying44 rfl n2
  have j4 := run_loadAt_mid (P := Try.prog) w.drew g2 8192 44 (flat L) _ r4 Try.underlying44 rfl n2
  obtain ⟨cc, hcc⟩ : ∃ cc, flat C = cc := ⟨_, rfl⟩
  obtain ⟨ll, hll⟩ : ∃ ll, flat L = ll := ⟨_, rfl⟩
  rw [hcc] at q1 j1 j2
  rw [hll] at q2 j3 j4
  clear h1 h2 hk1 hk2 hcc hll hC hL r1 r2 r3 r4 n1 n2 hu1 hu2 d1
  go_enter Try.func20, Try.ntmps20
  go_wp2_with fail
  refine start_ (n := 33) (S := fun w' => (Instr.loadAt 43 (.pointer (some ⟨g1, 0, none⟩))).run Try.prog w' = .ok (.agg cc.toArray) w' ∧ (Instr.loadAt 43 (.pointer (some ⟨g2, 0, none⟩))).run Try.prog w' = .ok (.agg cc.toArray) w' ∧ (Instr.loadAt 44 (.pointer (some ⟨g1, 8192, none⟩))).run Try.prog w' = .ok (.agg ll.toArray) w' ∧ (Instr.loadAt 44 (.pointer (some ⟨g2, 8192, none⟩))).run Try.prog w' = .ok (.agg ll.toArray) w' ∧ w'.cell? ⟨g1, 16384, none⟩ = some (.slice A1 T.length c1) ∧ w'.cell? ⟨g2, 16384, none⟩ = some (.slice A2 T.length c2)) (ds := []) #[false, false, false, false, false, false, false, false, false, false, false, false, false, false, false, false, false, false, false, false, false, false, false, false, false, false, false, false, false, false, false, false, false] (by kernel_rfl) rfl rfl ⟨j1, j2, j3, j4, t1, t2⟩ (fun hHeld => ?_)
  refine pure_ (i := 0) (N := some 6) (v := ?_) (a' := ?_) #[true, false, false, false, false, false, false, false, false, false, false, false, false, false, false, false, false, false, false, false, false, false, false, false, false, false, false, false, false, false, false, false, false] rfl rfl (by kernel_rfl) (fun _ _ _ h => h) (Or.inl ⟨by rfl, ?_⟩) ?_ ?_
  rotate_left
  · intro w'
    go_simp
    with_reducible rfl
  rotate_left
  · simp only [Act.put, List.setIfInBounds_toArray, List.set_cons_zero, List.set_cons_succ, i64_w, i32_w]
    rfl
  refine pure_ (i := 1) (N := some 7) (v := ?_) (a' := ?_) #[true, true, false, false, false, false, false, false, false, false, false, false, false, false, false, false, false, false, false, false, false, false, false, false, false, false, false, false, false, false, false, false, false] rfl rfl (by kernel_rfl) (fun _ _ _ h => h) (Or.inl ⟨by rfl, ?_⟩) ?_ ?_
  rotate_left
  · intro w'
    go_simp
    with_reducible rfl
  rotate_left
  · simp only [Act.put, List.setIfInBounds_toArray, List.set_cons_zero, List.set_cons_succ, i64_w, i32_w]
    rfl
  refine pure_ (i := 2) (N := some 8) (v := ?_) (a' := ?_) #[true, true, true, false, false, false, false, false, false, false, false, false, false, false, false, false, false, false, false, false, false, false, false, false, false, false, false, false, false, false, false, false, false] rfl rfl (by kernel_rfl) (fun _ _ _ h => h) (Or.inl ⟨by rfl, ?_⟩) ?_ ?_
  rotate_left
  · intro w'
    go_simp
    with_reducible rfl
  rotate_left
  · simp only [Act.put, List.setIfInBounds_toArray, List.set_cons_zero, List.set_cons_succ, i64_w, i32_w]
    rfl
  refine pure_ (i := 4) (N := some 10) (v := ?_) (a' := ?_) #[true, true, true, false, true, false, false, false, false, false, false, false, false, false, false, false, false, false, false, false, false, false, false, false, false, false, false, false, false, false, false, false, false] rfl rfl (by kernel_rfl) (fun _ _ _ h => h) (Or.inl ⟨by rfl, ?_⟩) ?_ ?_
  rotate_left
  · intro w'
    go_simp
    with_reducible rfl
  rotate_left
  · simp only [Act.put, List.setIfInBounds_toArray, List.set_cons_zero, List.set_cons_succ, i64_w, i32_w]
    rfl
  refine pure_ (i := 5) (N := some 11) (v := ?_) (a' := ?_) #[true, true, true, false, true, true, false, false, false, false, false, false, false, false, false, false, false, false, false, false, false, false, false, false, false, false, false, false, false, false, false, false, false] rfl rfl (by kernel_rfl) (fun _ _ _ h => h) (Or.inl ⟨by rfl, ?_⟩) ?_ ?_
  rotate_left
  · intro w'
    go_simp
    with_reducible rfl
  rotate_left
  · simp only [Act.put, List.setIfInBounds_toArray, List.set_cons_zero, List.set_cons_succ, i64_w, i32_w]
    rfl
  refine pure_ (i := 6) (N := some 12) (v := ?_) (a' := ?_) #[true, true, true, false, true, true, true, false, false, false, false, false, false, false, false, false, false, false, false, false, false, false, false, false, false, false, false, false, false, false, false, false, false] rfl rfl (by kernel_rfl) (fun _ _ _ h => h) (Or.inl ⟨by rfl, ?_⟩) ?_ ?_
  rotate_left
  · intro w'
    go_simp
    with_reducible rfl
  rotate_left
  · simp only [Act.put, List.setIfInBounds_toArray, List.set_cons_zero, List.set_cons_succ, i64_w, i32_w]
    rfl
  refine take_ (i := 3) (N := some 9) (v := ?_) (a' := ?_) #[true, true, true, true, true, true, true, false, false, false, false, false, false, false, false, false, false, false, false, false, false, false, false, false, false, false, false, false, false, false, false, false, false] rfl rfl (by kernel_rfl) (fun _ _ _ h => h) (Or.inl ⟨by rfl, ?_⟩) hHeld ?_ ?_
  rotate_left
  · rintro w' ⟨s0, s1, s2, s3, s4, s5⟩
    refine (exec_load (pv := .pointer (some ⟨g1, 0, none⟩)) rfl rfl s0).trans ?_
    with_reducible rfl
  rotate_left
  · simp only [Act.put, List.setIfInBounds_toArray, List.set_cons_zero, List.set_cons_succ, i64_w, i32_w]
    rfl
  refine take_ (i := 7) (N := some 13) (v := ?_) (a' := ?_) #[true, true, true, true, true, true, true, true, false, false, false, false, false, false, false, false, false, false, false, false, false, false, false, false, false, false, false, false, false, false, false, false, false] rfl rfl (by kernel_rfl) (fun _ _ _ h => h) (Or.inl ⟨by rfl, ?_⟩) hHeld ?_ ?_
  rotate_left
  · rintro w' ⟨s0, s1, s2, s3, s4, s5⟩
    refine (exec_load (pv := .pointer (some ⟨g2, 0, none⟩)) rfl rfl s1).trans ?_
    with_reducible rfl
  rotate_left
  · simp only [Act.put, List.setIfInBounds_toArray, List.set_cons_zero, List.set_cons_succ, i64_w, i32_w]
    rfl
  refine pure_ (i := 8) (N := some 14) (v := ?_) (a' := ?_) #[true, true, true, true, true, true, true, true, true, false, false, false, false, false, false, false, false, false, false, false, false, false, false, false, false, false, false, false, false, false, false, false, false] rfl rfl (by kernel_rfl) (fun _ _ _ h => h) (Or.inl ⟨by rfl, ?_⟩) ?_ ?_
  rotate_left
  · intro w'
    go_simp
    with_reducible rfl
  rotate_left
  · simp only [Act.put, List.setIfInBounds_toArray, List.set_cons_zero, List.set_cons_succ, i64_w, i32_w]
    rfl
  refine pure_ (i := 9) (N := some 15) (v := ?_) (a' := ?_) #[true, true, true, true, true, true, true, true, true, true, false, false, false, false, false, false, false, false, false, false, false, false, false, false, false, false, false, false, false, false, false, false, false] rfl rfl (by kernel_rfl) (fun _ _ _ h => h) (Or.inl ⟨by rfl, ?_⟩) ?_ ?_
  rotate_left
  · intro w'
    go_simp
    with_reducible rfl
  rotate_left
  · simp only [Act.put, List.setIfInBounds_toArray, List.set_cons_zero, List.set_cons_succ, i64_w, i32_w]
    rfl
  refine pure_ (i := 10) (N := some 16) (v := ?_) (a' := ?_) #[true, true, true, true, true, true, true, true, true, true, true, false, false, false, false, false, false, false, false, false, false, false, false, false, false, false, false, false, false, false, false, false, false] rfl rfl (by kernel_rfl) (fun _ _ _ h => h) (Or.inl ⟨by rfl, ?_⟩) ?_ ?_
  rotate_left
  · intro w'
    go_simp
    with_reducible rfl
  rotate_left
  · simp only [Act.put, List.setIfInBounds_toArray, List.set_cons_zero, List.set_cons_succ, i64_w, i32_w]
    rfl
  refine pure_ (i := 11) (N := some 17) (v := ?_) (a' := ?_) #[true, true, true, true, true, true, true, true, true, true, true, true, false, false, false, false, false, false, false, false, false, false, false, false, false, false, false, false, false, false, false, false, false] rfl rfl (by kernel_rfl) (fun _ _ _ h => h) (Or.inl ⟨by rfl, ?_⟩) ?_ ?_
  rotate_left
  · intro w'
    go_simp
    with_reducible rfl
  rotate_left
  · simp only [Act.put, List.setIfInBounds_toArray, List.set_cons_zero, List.set_cons_succ, i64_w, i32_w]
    rfl
  refine pure_ (i := 12) (N := some 18) (v := ?_) (a' := ?_) #[true, true, true, true, true, true, true, true, true, true, true, true, true, false, false, false, false, false, false, false, false, false, false, false, false, false, false, false, false, false, false, false, false] rfl rfl (by kernel_rfl) (fun _ _ _ h => h) (Or.inl ⟨by rfl, ?_⟩) ?_ ?_
  rotate_left
  · intro w'
    go_simp
    with_reducible rfl
  rotate_left
  · simp only [Act.put, List.setIfInBounds_toArray, List.set_cons_zero, List.set_cons_succ, i64_w, i32_w]
    rfl
  refine pure_ (i := 14) (N := some 20) (v := ?_) (a' := ?_) #[true, true, true, true, true, true, true, true, true, true, true, true, true, false, true, false, false, false, false, false, false, false, false, false, false, false, false, false, false, false, false, false, false] rfl rfl (by kernel_rfl) (fun _ _ _ h => h) (Or.inl ⟨by rfl, ?_⟩) ?_ ?_
  rotate_left
  · intro w'
    go_simp
    with_reducible rfl
  rotate_left
  · simp only [Act.put, List.setIfInBounds_toArray, List.set_cons_zero, List.set_cons_succ, i64_w, i32_w]
    rfl
  refine pure_ (i := 15) (N := some 21) (v := ?_) (a' := ?_) #[true, true, true, true, true, true, true, true, true, true, true, true, true, false, true, true, false, false, false, false, false, false, false, false, false, false, false, false, false, false, false, false, false] rfl rfl (by kernel_rfl) (fun _ _ _ h => h) (Or.inl ⟨by rfl, ?_⟩) ?_ ?_
  rotate_left
  · intro w'
    go_simp
    with_reducible rfl
  rotate_left
  · simp only [Act.put, List.setIfInBounds_toArray, List.set_cons_zero, List.set_cons_succ, i64_w, i32_w]
    rfl
  refine pure_ (i := 16) (N := some 22) (v := ?_) (a' := ?_) #[true, true, true, true, true, true, true, true, true, true, true, true, true, false, true, true, true, false, false, false, false, false, false, false, false, false, false, false, false, false, false, false, false] rfl rfl (by kernel_rfl) (fun _ _ _ h => h) (Or.inl ⟨by rfl, ?_⟩) ?_ ?_
  rotate_left
  · intro w'
    go_simp
    with_reducible rfl
  rotate_left
  · simp only [Act.put, List.setIfInBounds_toArray, List.set_cons_zero, List.set_cons_succ, i64_w, i32_w]
    rfl
  refine take_ (i := 13) (N := some 19) (v := ?_) (a' := ?_) #[true, true, true, true, true, true, true, true, true, true, true, true, true, true, true, true, true, false, false, false, false, false, false, false, false, false, false, false, false, false, false, false, false] rfl rfl (by kernel_rfl) (fun _ _ _ h => h) (Or.inl ⟨by rfl, ?_⟩) hHeld ?_ ?_
  rotate_left
  · rintro w' ⟨s0, s1, s2, s3, s4, s5⟩
    refine (exec_load (pv := .pointer (some ⟨g1, 8192, none⟩)) rfl rfl s2).trans ?_
    with_reducible rfl
  rotate_left
  · simp only [Act.put, List.setIfInBounds_toArray, List.set_cons_zero, List.set_cons_succ, i64_w, i32_w]
    rfl
  refine take_ (i := 17) (N := some 23) (v := ?_) (a' := ?_) #[true, true, true, true, true, true, true, true, true, true, true, true, true, true, true, true, true, true, false, false, false, false, false, false, false, false, false, false, false, false, false, false, false] rfl rfl (by kernel_rfl) (fun _ _ _ h => h) (Or.inl ⟨by rfl, ?_⟩) hHeld ?_ ?_
  rotate_left
  · rintro w' ⟨s0, s1, s2, s3, s4, s5⟩
    refine (exec_load (pv := .pointer (some ⟨g2, 8192, none⟩)) rfl rfl s3).trans ?_
    with_reducible rfl
  rotate_left
  · simp only [Act.put, List.setIfInBounds_toArray, List.set_cons_zero, List.set_cons_succ, i64_w, i32_w]
    rfl
  refine pure_ (i := 18) (N := some 24) (v := ?_) (a' := ?_) #[true, true, true, true, true, true, true, true, true, true, true, true, true, true, true, true, true, true, true, false, false, false, false, false, false, false, false, false, false, false, false, false, false] rfl rfl (by kernel_rfl) (fun _ _ _ h => h) (Or.inl ⟨by rfl, ?_⟩) ?_ ?_
  rotate_left
  · intro w'
    go_simp
    with_reducible rfl
  rotate_left
  · simp only [Act.put, List.setIfInBounds_toArray, List.set_cons_zero, List.set_cons_succ, i64_w, i32_w]
    rfl
  refine pure_ (i := 19) (N := some 25) (v := ?_) (a' := ?_) #[true, true, true, true, true, true, true, true, true, true, true, true, true, true, true, true, true, true, true, true, false, false, false, false, false, false, false, false, false, false, false, false, false] rfl rfl (by kernel_rfl) (fun _ _ _ h => h) (Or.inl ⟨by rfl, ?_⟩) ?_ ?_
  rotate_left
  · intro w'
    go_simp
    with_reducible rfl
  rotate_left
  · simp only [Act.put, List.setIfInBounds_toArray, List.set_cons_zero, List.set_cons_succ, i64_w, i32_w]
    rfl
  refine pure_ (i := 20) (N := some 26) (v := ?_) (a' := ?_) #[true, true, true, true, true, true, true, true, true, true, true, true, true, true, true, true, true, true, true, true, true, false, false, false, false, false, false, false, false, false, false, false, false] rfl rfl (by kernel_rfl) (fun _ _ _ h => h) (Or.inl ⟨by rfl, ?_⟩) ?_ ?_
  rotate_left
  · intro w'
    go_simp
    with_reducible rfl
  rotate_left
  · simp only [Act.put, List.setIfInBounds_toArray, List.set_cons_zero, List.set_cons_succ, i64_w, i32_w]
    rfl
  refine pure_ (i := 21) (N := some 27) (v := ?_) (a' := ?_) #[true, true, true, true, true, true, true, true, true, true, true, true, true, true, true, true, true, true, true, true, true, true, false, false, false, false, false, false, false, false, false, false, false] rfl rfl (by kernel_rfl) (fun _ _ _ h => h) (Or.inl ⟨by rfl, ?_⟩) ?_ ?_
  rotate_left
  · intro w'
    go_simp
    with_reducible rfl
  rotate_left
  · simp only [Act.put, List.setIfInBounds_toArray, List.set_cons_zero, List.set_cons_succ, i64_w, i32_w]
    rfl
  refine pure_ (i := 22) (N := some 28) (v := ?_) (a' := ?_) #[true, true, true, true, true, true, true, true, true, true, true, true, true, true, true, true, true, true, true, true, true, true, true, false, false, false, false, false, false, false, false, false, false] rfl rfl (by kernel_rfl) (fun _ _ _ h => h) (Or.inl ⟨by rfl, ?_⟩) ?_ ?_
  rotate_left
  · intro w'
    go_simp
    with_reducible rfl
  rotate_left
  · simp only [Act.put, List.setIfInBounds_toArray, List.set_cons_zero, List.set_cons_succ, i64_w, i32_w]
    rfl
  refine pure_ (i := 23) (N := some 29) (v := ?_) (a' := ?_) #[true, true, true, true, true, true, true, true, true, true, true, true, true, true, true, true, true, true, true, true, true, true, true, true, false, false, false, false, false, false, false, false, false] rfl rfl (by kernel_rfl) (fun _ _ _ h => h) (Or.inl ⟨by rfl, ?_⟩) ?_ ?_
  rotate_left
  · intro w'
    go_simp
    with_reducible rfl
  rotate_left
  · simp only [Act.put, List.setIfInBounds_toArray, List.set_cons_zero, List.set_cons_succ, i64_w, i32_w]
    rfl
  refine pure_ (i := 26) (N := some 32) (v := ?_) (a' := ?_) #[true, true, true, true, true, true, true, true, true, true, true, true, true, true, true, true, true, true, true, true, true, true, true, true, false, false, true, false, false, false, false, false, false] rfl rfl (by kernel_rfl) (fun _ _ _ h => h) (Or.inl ⟨by rfl, ?_⟩) ?_ ?_
  rotate_left
  · intro w'
    go_simp
    with_reducible rfl
  rotate_left
  · simp only [Act.put, List.setIfInBounds_toArray, List.set_cons_zero, List.set_cons_succ, i64_w, i32_w]
    rfl
  refine pure_ (i := 27) (N := some 33) (v := ?_) (a' := ?_) #[true, true, true, true, true, true, true, true, true, true, true, true, true, true, true, true, true, true, true, true, true, true, true, true, false, false, true, true, false, false, false, false, false] rfl rfl (by kernel_rfl) (fun _ _ _ h => h) (Or.inl ⟨by rfl, ?_⟩) ?_ ?_
  rotate_left
  · intro w'
    go_simp
    with_reducible rfl
  rotate_left
  · simp only [Act.put, List.setIfInBounds_toArray, List.set_cons_zero, List.set_cons_succ, i64_w, i32_w]
    rfl
  refine pure_ (i := 28) (N := some 34) (v := ?_) (a' := ?_) #[true, true, true, true, true, true, true, true, true, true, true, true, true, true, true, true, true, true, true, true, true, true, true, true, false, false, true, true, true, false, false, false, false] rfl rfl (by kernel_rfl) (fun _ _ _ h => h) (Or.inl ⟨by rfl, ?_⟩) ?_ ?_
  rotate_left
  · intro w'
    go_simp
    with_reducible rfl
  rotate_left
  · simp only [Act.put, List.setIfInBounds_toArray, List.set_cons_zero, List.set_cons_succ, i64_w, i32_w]
    rfl
  refine take_ (i := 24) (N := some 30) (v := ?_) (a' := ?_) #[true, true, true, true, true, true, true, true, true, true, true, true, true, true, true, true, true, true, true, true, true, true, true, true, true, false, true, true, true, false, false, false, false] rfl rfl (by kernel_rfl) (fun _ _ _ h => h) (Or.inl ⟨by rfl, ?_⟩) hHeld ?_ ?_
  rotate_left
  · rintro w' ⟨s0, s1, s2, s3, s4, s5⟩
    go_simp
    with_reducible rfl
  rotate_left
  · simp only [Act.put, List.setIfInBounds_toArray, List.set_cons_zero, List.set_cons_succ, i64_w, i32_w]
    rfl
  refine pure_ (i := 25) (N := some 31) (v := ?_) (a' := ?_) #[true, true, true, true, true, true, true, true, true, true, true, true, true, true, true, true, true, true, true, true, true, true, true, true, true, true, true, true, true, false, false, false, false] rfl rfl (by kernel_rfl) (fun _ _ _ h => h) (Or.inl ⟨by rfl, ?_⟩) ?_ ?_
  rotate_left
  · intro w'
    go_simp
    with_reducible rfl
  rotate_left
  · simp only [Act.put, List.setIfInBounds_toArray, List.set_cons_zero, List.set_cons_succ, i64_w, i32_w]
    rfl
  refine take_ (i := 29) (N := some 35) (v := ?_) (a' := ?_) #[true, true, true, true, true, true, true, true, true, true, true, true, true, true, true, true, true, true, true, true, true, true, true, true, true, true, true, true, true, true, false, false, false] rfl rfl (by kernel_rfl) (fun _ _ _ h => h) (Or.inl ⟨by rfl, ?_⟩) hHeld ?_ ?_
  rotate_left
  · rintro w' ⟨s0, s1, s2, s3, s4, s5⟩
    go_simp
    with_reducible rfl
  rotate_left
  · simp only [Act.put, List.setIfInBounds_toArray, List.set_cons_zero, List.set_cons_succ, i64_w, i32_w]
    rfl
  refine pure_ (i := 30) (N := some 36) (v := ?_) (a' := ?_) #[true, true, true, true, true, true, true, true, true, true, true, true, true, true, true, true, true, true, true, true, true, true, true, true, true, true, true, true, true, true, true, false, false] rfl rfl (by kernel_rfl) (fun _ _ _ h => h) (Or.inl ⟨by rfl, ?_⟩) ?_ ?_
  rotate_left
  · intro w'
    go_simp
    with_reducible rfl
  rotate_left
  · simp only [Act.put, List.setIfInBounds_toArray, List.set_cons_zero, List.set_cons_succ, i64_w, i32_w]
    rfl
  refine pure_ (i := 31) (N := some 37) (v := ?_) (a' := ?_) #[true, true, true, true, true, true, true, true, true, true, true, true, true, true, true, true, true, true, true, true, true, true, true, true, true, true, true, true, true, true, true, true, false] rfl rfl (by kernel_rfl) (fun _ _ _ h => h) (Or.inl ⟨by rfl, ?_⟩) ?_ ?_
  rotate_left
  · intro w'
    go_simp
    with_reducible rfl
  rotate_left
  · simp only [Act.put, List.setIfInBounds_toArray, List.set_cons_zero, List.set_cons_succ, i64_w, i32_w]
    rfl
  refine pure_ (i := 32) (N := some 38) (v := ?_) (a' := ?_) #[true, true, true, true, true, true, true, true, true, true, true, true, true, true, true, true, true, true, true, true, true, true, true, true, true, true, true, true, true, true, true, true, true] rfl rfl (by kernel_rfl) (fun _ _ _ h => h) (Or.inl ⟨by rfl, ?_⟩) ?_ ?_
  rotate_left
  · intro w'
    go_simp
    with_reducible rfl
  rotate_left
  · simp only [Act.put, List.setIfInBounds_toArray, List.set_cons_zero, List.set_cons_succ, i64_w, i32_w]
    rfl
  refine done_ (by kernel_rfl) ?_
  clear j1 j2 j3 j4 q1 q2 q3 q4 t1 t2 hHeld
  go_wp2
  go_loopw [5] (fun iv W => ∃ j : Nat, j ≤ T.length ∧ iv = .int .i64 (j : Int) ∧ Aside0 (Below w.heap.size w W)) (fun iv _ => T.length - (intOf iv).toNat)
  case atStart => exact ⟨0, by omega, rfl, ⟨below_drew (Below.refl _ _)⟩⟩
  case round =>
    obtain ⟨j, hj, rfl, ⟨hb⟩⟩ := hrel
    have HB := Lib.hid hb
    have t1 := (H1.out.below hb H1.out.lt).atT
    have t2 := (H2.out.below hb H2.out.lt).atT
    by_cases hlt : j < T.length
    · have d1 := decide_eq_true (show (j : Int) < (T.length : Int) by omega)
      obtain ⟨ad1, rfl, s0, s1⟩ := tick_at (Kd.C_below HK1.out hb) j hlt
      obtain ⟨ad2, rfl, s2, s3⟩ := tick_at (Kd.C_below HK2.out hb) j hlt
      obtain ⟨⟨ta, td⟩, hti⟩ : ∃ q, T.getD j P0 = q := ⟨_, rfl⟩
      rw [hti] at s0 s1 s2 s3
      have q5 := fun W => (eq_tick (ta, td) (ta, td) W).trans (by rw [beq_self_eq_true, beq_self_eq_true]; rfl : _ = Result.ok true W)
      have q6 : Try.prog.eqGuardType Try.prog.depth 48 = false := by kernel_rfl
      have p1 : (0 ≤ (j : Int)) = True := eq_true (by omega)
      have p2 : ((j : Int) < (T.length : Int)) = True := eq_true (by omega)
      have p3 : (0 : Int) ≤ (j : Int) := by omega
      have p4 : (j : Int) < (T.length : Int) := by omega
      clear hb hti
      go_wp2_with fail
      go_quiet (fail)
      go_wp2
      go_roundw
      case rel => exact ⟨j + 1, by omega, by go_num, ⟨by repeat (first | exact HB.out | apply below_drew | apply pw_below_drewN)⟩⟩
      case measure => simp [intOf]; omega
    · have d1 := decide_eq_false (show ¬ (j : Int) < (T.length : Int) by omega)
      clear hb
      go_wp2
      go_ret
      exact ⟨rfl, HB.out⟩
end Go.Proofs.Ytkecppgodmbmlaa.PK

namespace Go.Proofs.Ytkecppgodmbmlaa.PK
open Go.RowKit Go.Proofs.YtkecppgodmbmlaaW.PrintWords Go.Proofs.YtkecppgodmbmlaaW.PrintLast Go.Proofs.YtkecppgodmbmlaaW.PrintMore Go.Proofs.Ytkecppgodmbmlaa.CD Go.Proofs.Ytkecppgodmbmlaa.BR
set_option linter.unusedVariables false
set_option linter.unusedSimpArgs false
theorem eq_cell' (p q : Pr) (W : World) : (Op.equalIn 10000 34 (.agg #[.int .u8 p.1, .int .u8 p.2]) (.agg #[.int .u8 q.1, .int .u8 q.2])).run Try.prog W = .ok (p.1 == q.1 && (p.2 == q.2)) W := by
  refine eqA_of (d := 9999) Try.underlying34 (by kernel_rfl) ?_
  refine eqf_cons (by rfl) (by go_simp; rfl) (by go_simp; rfl) (by go_simp) ?_
  exact eqf_last (by rfl) (by go_simp; rfl) (by go_simp; rfl) (by go_simp)
theorem eq_light' (p q : Pr) (W : World) : (Op.equalIn 10000 36 (.agg #[.int .u8 p.1, .int .u8 p.2]) (.agg #[.int .u8 q.1, .int .u8 q.2])).run Try.prog W = .ok (p.1 == q.1 && (p.2 == q.2)) W := by
  refine eqA_of (d := 9999) Try.underlying36 (by kernel_rfl) ?_
  refine eqf_cons (by rfl) (by go_simp; rfl) (by go_simp; rfl) (by go_simp) ?_
  exact eqf_last (by rfl) (by go_simp; rfl) (by go_simp; rfl) (by go_simp)
set_option maxHeartbeats 2000000 in
set_option maxRecDepth 100000 in
theorem rsame_calls (g1 g2 : Nat) (C L T : List Pr) (v1 v2 : Value) (w : World) (h1 : Chunk w g1 C L v1) (h2 : Chunk w g2 C L v2) (k1 : TK w v1 T) (k2 : TK w v2 T) (hT : T.length ≤ 1000000) :
    Calls Try.prog 14 #[.pointer (some ⟨g1, 0, none⟩), .pointer (some ⟨g2, 0, none⟩)] w fun e w' => e = .returned (.bool true) ∧ Below w.heap.size w w' := by
  obtain ⟨A1, c1, rfl, hc1, hk1⟩ := k1
  obtain ⟨A2, c2, rfl, hc2, hk2⟩ := k2
  have H1 := Lib.hid h1
  have H2 := Lib.hid h2
  have HK1 := Lib.hid hk1
  have HK2 := Lib.hid hk2
  clear h1 h2 hk1 hk2
  go_enter Try.func14, Try.ntmps14
  go_wp2
  go_loopw [5] (fun iv W => ∃ i : Nat, i ≤ 4096 ∧ iv = .int .i64 (i : Int) ∧ Aside0 (Below w.heap.size w W)) (fun iv _ => 4096 - (intOf iv).toNat)
  case atStart => exact ⟨0, by omega, rfl, ⟨Below.refl _ _⟩⟩
  case round =>
    obtain ⟨i, hi, rfl, ⟨hb⟩⟩ := hrel
    have HB := Lib.hid hb
    by_cases hlt : i < 4096
    · have d1 := decide_eq_true (show (i : Int) < 4096 by omega)
      obtain ⟨a0, a1⟩ := (H1.out.below hb H1.out.lt).atC i hlt
      obtain ⟨b0, b1⟩ := (H2.out.below hb H2.out.lt).atC i hlt
      obtain ⟨a2, a3⟩ := (H1.out.below hb H1.out.lt).atL i hlt
      obtain ⟨b2, b3⟩ := (H2.out.below hb H2.out.lt).atL i hlt
      obtain ⟨⟨ck, cl⟩, hc⟩ : ∃ q, C.getD i P0 = q := ⟨_, rfl⟩
      obtain ⟨⟨sk, la⟩, hl⟩ : ∃ q, L.getD i P0 = q := ⟨_, rfl⟩
      rw [hc] at a0 a1 b0 b1
      rw [hl] at a2 a3 b2 b3
      have q5 := fun W => (eq_cell' (ck, cl) (ck, cl) W).trans (by rw [beq_self_eq_true, beq_self_eq_true]; rfl : _ = Result.ok true W)
      have q6 := fun W => (eq_light' (sk, la) (sk, la) W).trans (by rw [beq_self_eq_true, beq_self_eq_true]; rfl : _ = Result.ok true W)
      have q7 : Try.prog.eqGuardType Try.prog.depth 34 = false := by kernel_rfl
      have q8 : Try.prog.eqGuardType Try.prog.depth 36 = false := by kernel_rfl
      have p1 : (0 ≤ (i : Int)) = True := eq_true (by omega)
      have p2 : ((i : Int) < 4096) = True := eq_true (by omega)
      have p3 : (0 : Int) ≤ (i : Int) := by omega
      have p4 : (i : Int) < 4096 := by omega
      clear hb hc hl
      go_wp2_with fail
      go_quiet (fail)
      go_wp2
      go_roundw
      case rel => exact ⟨i + 1, by omega, by go_num, ⟨by repeat (first | exact HB.out | apply below_drew | apply pw_below_drewN)⟩⟩
      case measure => simp [intOf]; omega
    · have d1 := decide_eq_false (show ¬ (i : Int) < 4096 by omega)
      have t1 := (H1.out.below hb H1.out.lt).atT
      have t2 := (H2.out.below hb H2.out.lt).atT
      clear hb
      go_wp2_with fail
      go_quiet (fail)
      go_wp2
      clear t1 t2
      go_loopw [6] (fun iv W => ∃ j : Nat, j ≤ T.length ∧ iv = .int .i64 (j : Int) ∧ Aside0 (Below w.heap.size w W)) (fun iv _ => T.length - (intOf iv).toNat)
      case atStart => exact ⟨0, by omega, rfl, ⟨by repeat (first | exact HB.out | apply below_drew | apply pw_below_drewN)⟩⟩
      case round =>
        obtain ⟨j, hj, rfl, ⟨hb⟩⟩ := hrel
        have HBj := Lib.hid hb
        have t1 := (H1.out.below hb H1.out.lt).atT
        have t2 := (H2.out.below hb H2.out.lt).atT
        by_cases hjl : j < T.length
        · have d2 := decide_eq_true (show (j : Int) < (T.length : Int) by omega)
          obtain ⟨ad1, rfl, s0, s1⟩ := tick_at (Kd.C_below HK1.out hb) j hjl
          obtain ⟨ad2, rfl, s2, s3⟩ := tick_at (Kd.C_below HK2.out hb) j hjl
          obtain ⟨⟨ta, td⟩, hti⟩ : ∃ q, T.getD j P0 = q := ⟨_, rfl⟩
          rw [hti] at s0 s1 s2 s3
          have q5 := fun W => (eq_tick (ta, td) (ta, td) W).trans (by rw [beq_self_eq_true, beq_self_eq_true]; rfl : _ = Result.ok true W)
          have q6 : Try.prog.eqGuardType Try.prog.depth 48 = false := by kernel_rfl
          have p1 : (0 ≤ (j : Int)) = True := eq_true (by omega)
          have p2 : ((j : Int) < (T.length : Int)) = True := eq_true (by omega)
          have p3 : (0 : Int) ≤ (j : Int) := by omega
          have p4 : (j : Int) < (T.length : Int) := by omega
          clear hb hti
          go_wp2_with fail
          go_quiet (fail)
          go_wp2
          go_roundw
          case rel => exact ⟨j + 1, by omega, by go_num, ⟨by repeat (first | exact HBj.out | apply below_drew | apply pw_below_drewN)⟩⟩
          case measure => simp [intOf]; omega
        · have d2 := decide_eq_false (show ¬ (j : Int) < (T.length : Int) by omega)
          clear hb
          go_wp2
          go_ret
          exact ⟨rfl, HBj.out⟩
end Go.Proofs.Ytkecppgodmbmlaa.PK

namespace Go.Proofs.Ytkecppgodmbmlaa.PK
open Go.RowKit Go.Proofs.YtkecppgodmbmlaaW.PrintWords Go.Proofs.YtkecppgodmbmlaaW.PrintLast Go.Proofs.YtkecppgodmbmlaaW.PrintMore Go.Proofs.Ytkecppgodmbmlaa.CD Go.Proofs.Ytkecppgodmbmlaa.BR
attribute [local go_sem] max2_int min2_int max_two min_two max_three min_three max_four min_four
set_option linter.unusedVariables false
set_option linter.unusedSimpArgs false
theorem and_low (x : Int) (k : Nat) (hk : k < 32) : bits .and .i64 x (((2 ^ k - 1 : Nat) : Int)) = x % ((2 ^ k : Nat) : Int) := by
  have hp : 2 ^ k < 2 ^ 32 := Nat.pow_lt_pow_right (by omega) hk
  have hp1 : 1 ≤ 2 ^ k := Nat.one_le_two_pow
  have hdvd : ((2 ^ k : Nat) : Int) ∣ ((2 ^ 64 : Nat) : Int) := by
    rw [Int.natCast_dvd_natCast]; exact Nat.pow_dvd_pow 2 (by omega)
  show IntKind.i64.wrap ((BitVec.ofInt 64 x &&& BitVec.ofInt 64 ((2 ^ k - 1 : Nat) : Int)).toNat : Int) = _
  rw [BitVec.toNat_and, BitVec.ofInt_natCast, BitVec.toNat_ofNat, Nat.mod_eq_of_lt (a := 2 ^ k - 1) (by omega), Nat.and_two_pow_sub_one_eq_mod, BitVec.toNat_ofInt]
  have h1 : (((x % ((2 ^ 64 : Nat) : Int)).toNat % 2 ^ k : Nat) : Int) = x % ((2 ^ k : Nat) : Int) := by
    rw [Int.natCast_emod, Int.toNat_of_nonneg (Int.emod_nonneg _ (by decide)), Int.emod_emod_of_dvd _ hdvd]
  rw [h1]
  have h2 : 0 ≤ x % ((2 ^ k : Nat) : Int) := Int.emod_nonneg _ (by omega)
  have h3 : x % ((2 ^ k : Nat) : Int) < ((2 ^ k : Nat) : Int) := Int.emod_lt_of_pos _ (by omega)
  generalize x % ((2 ^ k : Nat) : Int) = y at *
  have h4 : ((2 ^ k : Nat) : Int) < ((4294967296 : Nat) : Int) := Int.ofNat_lt.mpr hp
  rw [i64_w]
  unfold wrap64
  omega
theorem and4095 (x : Int) : bits .and .i64 x 4095 = x % 4096 := and_low x 12 (by decide)
theorem C_takeT {w : World} {A : Option Addr} {n : Nat} {xs : List Pr} (h : Kd.C kT w A n xs) (m : Nat) (hm : m ≤ n) : Kd.C kT w A m (xs.take m) := by
  refine ⟨by rw [List.length_take]; have := h.1; omega, Nat.le_trans hm h.2.1, fun h0 => ?_⟩
  obtain ⟨ad, e, hc⟩ := h.2.2 (by omega)
  exact ⟨ad, e, fun j p hj => hc j p (by rw [List.getElem?_take] at hj; split at hj <;> simp_all)⟩
theorem Pts.below {w w' : World} {A : Option Addr} {ps : List Pt} (h : Pts w A ps) (hb : Below w.heap.size w w') : Pts w' A ps := fun j hj => by
  obtain ⟨ad, rfl, h0, h1, h2, h3, h4, h5⟩ := h j hj
  have k := fun (p : Addr) (v : Value) (hc : w.cell? p = some v) => Lib.Below.cellOf hb hc (Nat.le_refl _)
  exact ⟨ad, rfl, k _ _ h0, k _ _ h1, k _ _ h2, k _ _ h3, k _ _ h4, k _ _ h5⟩
theorem infoTick : (Try.prog.info? 48).map (fun i => (i.zero, i.size, i.bytes)) = some (some (.agg #[.int .i64 0, .int .i64 0]), 2, 16) := by kernel_rfl
/-- What the loop over a part's cells keeps. -/
structure Fi (w W : World) (g : Nat) (C L : List Pr) (at_ i : Nat) (c l : Pr) : Prop where
  below : Below g w W
  ch : Chunk W g (fillN at_ c i C) (fillN at_ l i L) (.slice none 0 0)
theorem step_at (C L : List Pr) (pa pm : Int) (c l : Pr) (at_ i : Nat) (hat : (at_ : Int) = pa % 4096) (hi : i = many (pa, pm, c, l)) : stepM (C, L) (pa, pm, c, l) = (fillN at_ c i C, fillN at_ l i L) := by
  subst hi
  have e : (pa % 4096).toNat = at_ := by omega
  unfold stepM
  simp only [e]
theorem many_at (pa pm : Int) (c l : Pr) (at_ : Nat) (hat : (at_ : Int) = pa % 4096) : many (pa, pm, c, l) = min pm.toNat (4096 - at_) := by
  have e : (pa % 4096).toNat = at_ := by omega
  unfold many
  simp only [e]
theorem many_end (z at_ i M : Nat) (pm : Int) (hM : M = min pm.toNat (4096 - at_)) (hz : z = at_ + i) (hi : i ≤ M) (hin : ¬ ((i : Int) < pm ∧ z < 4096)) : i = M := by omega
theorem many_lt (z at_ i M : Nat) (pm : Int) (hM : M = min pm.toNat (4096 - at_)) (hz : z = at_ + i) (hin : (i : Int) < pm ∧ z < 4096) : i + 1 ≤ M := by omega
theorem madeP_len (ps : List Pt) : (madeP ps).1.length = 4096 ∧ (madeP ps).2.length = 4096 := by
  have : ∀ (l : List Pt) (s : List Pr × List Pr), s.1.length = 4096 ∧ s.2.length = 4096 → (l.foldl stepM s).1.length = 4096 ∧ (l.foldl stepM s).2.length = 4096 := by
    intro l
    induction l with
    | nil => exact fun s h => h
    | cons p l ih => exact fun s h => ih _ ⟨by unfold stepM; rw [fillN_len]; exact h.1, by unfold stepM; rw [fillN_len]; exact h.2⟩
  exact this ps _ ⟨air_len, air_len⟩
theorem takeP_next (l : List Pt) (i : Nat) (h : i < l.length) : l.take (i + 1) = l.take i ++ [l.getD i Q0] := by
  rw [List.take_add_one, List.getD_eq_getElem?_getD, List.getElem?_eq_getElem h]; rfl
set_option maxHeartbeats 2000000 in
set_option maxRecDepth 100000 in
theorem made_calls (A tA : Option Addr) (c tc : Nat) (ps : List Pt) (T : List Pr) (w : World) (hl : ps.length ≤ 140737488355328) (hP : Pts w A ps) (hT : Kd.C kT w tA T.length T) (hc : T.length ≤ tc) (hm : tc ≤ maxLen) :
    Calls Try.prog 17 #[.slice A ps.length c, .slice tA T.length tc] w fun e w' => ∃ v, e = .returned (.pointer (some ⟨w.heap.size, 0, none⟩)) ∧ Chunk w' w.heap.size (madeP (ps.take 300)).1 (madeP (ps.take 300)).2 v ∧ TK w' v (T.take 5000) ∧ Below w.heap.size w w' := by
  have hbu := run_zero
  have hbo := run_box
  have HP := Lib.hid hP
  have HT := Lib.hid hT
  have hand := and4095
  clear hP hT
  go_enter Try.func17, Try.ntmps17
  go_wp2
  clear hbu hbo
  generalize Value.agg zero = u9
  go_loopw [6] (fun kv W => ∃ k : Nat, k ≤ ps.length ∧ k ≤ 300 ∧ kv = .int .i64 (k : Int) ∧ Aside0 (Below w.heap.size w W) ∧ Aside0 (Chunk W w.heap.size (madeP (ps.take k)).1 (madeP (ps.take k)).2 (.slice none 0 0))) (fun kv _ => 300 - (intOf kv).toNat)
  case atStart => exact ⟨0, by omega, by omega, rfl, ⟨below_alloc (Below.refl _ _) _⟩, ⟨chunk_new w⟩⟩
  case round =>
    obtain ⟨k, hk, hk3, rfl, ⟨hb⟩, ⟨hch⟩⟩ := hrel
    have HB := Lib.hid hb
    have HC := Lib.hid hch
    obtain ⟨w5, hw5⟩ : ∃ w5, w5 = wr := ⟨_, rfl⟩
    by_cases hlt : k < ps.length ∧ k < 300
    · have hd1 := decide_eq_true (show (k : Int) < (ps.length : Int) by omega)
      have hd2 := decide_eq_true (show (k : Int) < 300 by omega)
      obtain ⟨ad, rfl, P0⟩ := HP.out k hlt.1
      obtain ⟨p, hp⟩ : ∃ p, ps.getD k Q0 = p := ⟨_, rfl⟩
      rw [hp] at P0
      obtain ⟨pa, pm, ⟨pk, pl⟩, ⟨pq, pr⟩⟩ := p
      simp only at P0
      have HQ := Lib.hid (fun W (hb : Below w.heap.size w W) => (⟨Lib.Below.cellOf hb P0.1 (Nat.le_refl _), Lib.Below.cellOf hb P0.2.1 (Nat.le_refl _), Lib.Below.cellOf hb P0.2.2.1 (Nat.le_refl _), Lib.Below.cellOf hb P0.2.2.2.1 (Nat.le_refl _), Lib.Below.cellOf hb P0.2.2.2.2.1 (Nat.le_refl _), Lib.Below.cellOf hb P0.2.2.2.2.2 (Nat.le_refl _)⟩ : 
        W.cell? (ad.add (k * 6)) = some (.int .i64 pa) ∧ W.cell? ⟨(ad.add (k * 6)).block, (ad.add (k * 6)).off + 1, none⟩ = some (.int .i64 pm) ∧ W.cell? ⟨(ad.add (k * 6)).block, (ad.add (k * 6)).off + 2, none⟩ = some (.int .u8 pk) ∧ W.cell? ⟨(ad.add (k * 6)).block, (ad.add (k * 6)).off + 2 + 1, none⟩ = some (.int .u8 pl) ∧ W.cell? ⟨(ad.add (k * 6)).block, (ad.add (k * 6)).off + 4, none⟩ = some (.int .u8 pq) ∧ W.cell? ⟨(ad.add (k * 6)).block, (ad.add (k * 6)).off + 4 + 1, none⟩ = some (.int .u8 pr)))
      have p0 := (HQ.out _ hb).1
      clear P0
      obtain ⟨at_, hat⟩ : ∃ n : Nat, (n : Int) = pa % 4096 := ⟨(pa % 4096).toNat, by omega⟩
      have hat4 : at_ < 4096 := by omega
      have ha0 : bits .and .i64 pa 4095 = (at_ : Int) := (hand pa).trans hat.symm
      have r1 : (0 ≤ (k : Int)) = True := eq_true (by omega)
      have r2 : ((k : Int) < (ps.length : Int)) = True := eq_true (by omega)
      obtain ⟨C, hCC⟩ : ∃ C, (madeP (ps.take k)).1 = C := ⟨_, rfl⟩
      obtain ⟨L, hLL⟩ : ∃ L, (madeP (ps.take k)).2 = L := ⟨_, rfl⟩
      rw [hCC, hLL] at hch
      have HST := Lib.hid (show madeP (ps.take (k + 1)) = stepM (C, L) (pa, pm, (pk, pl), (pq, pr)) by rw [takeP_next ps k hlt.1, madeP_snoc, hp, ← hCC, ← hLL])
      have HF0 := Lib.hid (⟨hb, hch⟩ : Fi w wr w.heap.size C L at_ 0 (pk, pl) (pq, pr))
      have HW5 := Lib.hid hw5
      have HAT := Lib.hid hat
      clear hb hch hCC hLL hp hw5 hat hand
      go_wp2
      go_loopw [8] (fun iv W => ∃ i : Nat, i ≤ many (pa, pm, (pk, pl), (pq, pr)) ∧ iv = .int .i64 (i : Int) ∧ Aside0 (Fi w W w.heap.size C L at_ i (pk, pl) (pq, pr))) (fun iv _ => 4096 - (intOf iv).toNat)
      case atStart => exact ⟨0, by omega, rfl, ⟨HF0.out⟩⟩
      case round =>
        obtain ⟨i, hi, rfl, ⟨hf⟩⟩ := hrel
        have HF := Lib.hid hf
        clear p0
        have hmany := many_at pa pm (pk, pl) (pq, pr) at_ HAT.out
        have p1 := (HQ.out _ hf.below).2.1
        obtain ⟨z, hz⟩ : ∃ z : Nat, z = at_ + i := ⟨_, rfl⟩
        have ew : wrap64 ((at_ : Int) + (i : Int)) = (z : Int) := by unfold wrap64; omega
        have HZ := Lib.hid hz
        by_cases hin : (i : Int) < pm ∧ z < 4096
        · --CUT1
          have HI1 := Lib.hid (many_lt z at_ i _ pm hmany hz hin)
          clear hmany hi
          have hil : i < 4096 := by omega
          have he1 := decide_eq_true hin.1
          have he2 := decide_eq_true (show (z : Int) < 4096 by omega)
          have he3 := decide_eq_true (show (at_ : Int) + (i : Int) < 4096 by omega)
          obtain ⟨q0, q1, q2, q3, q4, q5⟩ := HQ.out _ hf.below
          obtain ⟨c0, c1⟩ := hf.ch.atC z hin.2
          have cf0 := hf.ch.frz (z * 2)
          have cf1 := hf.ch.frz (z * 2 + 1)
          have r3 : (0 ≤ (z : Int)) = True := eq_true (by omega)
          have r4 : ((z : Int) < 4096) = True := eq_true (by omega)
          have F1 := Lib.hid (hf.ch.setC z hin.2 (pk, pl))
          clear hf hz
          go_wp2_with fail
          refine start_ (n := 13) (S := fun w' => w'.cell? ⟨(ad.add (k * 6)).block, (ad.add (k * 6)).off + 2, none⟩ = some (.int .u8 pk) ∧ w'.cell? ⟨(ad.add (k * 6)).block, (ad.add (k * 6)).off + 2 + 1, none⟩ = some (.int .u8 pl)) (ds := [12]) #[false, false, false, false, false, false, false, false, false, false, false, false, false] (by kernel_rfl) rfl rfl ⟨q2, q3⟩ (fun hHeld => ?_)
          refine pure_ (i := 0) (N := some 42) (v := ?_) (a' := ?_) #[true, false, false, false, false, false, false, false, false, false, false, false, false] rfl rfl (by kernel_rfl) (fun _ _ _ h => h) (Or.inl ⟨by rfl, ?_⟩) ?_ ?_
          rotate_left
          · intro w'
            go_simp
            with_reducible rfl
          rotate_left
          · simp only [Act.put, List.setIfInBounds_toArray, List.set_cons_zero, List.set_cons_succ, i64_w, i32_w]
            rfl
          refine pure_ (i := 1) (N := some 43) (v := ?_) (a' := ?_) #[true, true, false, false, false, false, false, false, false, false, false, false, false] rfl rfl (by kernel_rfl) (fun _ _ _ h => h) (Or.inl ⟨by rfl, ?_⟩) ?_ ?_
          rotate_left
          · intro w'
            go_simp
            with_reducible rfl
          rotate_left
          · simp only [Act.put, List.setIfInBounds_toArray, List.set_cons_zero, List.set_cons_succ, i64_w, i32_w]
            rfl
          refine pure_ (i := 2) (N := some 44) (v := ?_) (a' := ?_) #[true, true, true, false, false, false, false, false, false, false, false, false, false] rfl rfl (by kernel_rfl) (fun _ _ _ h => h) (Or.inl ⟨by rfl, ?_⟩) ?_ ?_
          rotate_left
          · intro w'
            go_simp
            with_reducible rfl
          rotate_left
          · simp only [Act.put, List.setIfInBounds_toArray, List.set_cons_zero, List.set_cons_succ, i64_w, i32_w]
            rfl
          refine pure_ (i := 3) (N := some 45) (v := ?_) (a' := ?_) #[true, true, true, true, false, false, false, false, false, false, false, false, false] rfl rfl (by kernel_rfl) (fun _ _ _ h => h) (Or.inl ⟨by rfl, ?_⟩) ?_ ?_
          rotate_left
          · intro w'
            go_simp
            with_reducible rfl
          rotate_left
          · simp only [Act.put, List.setIfInBounds_toArray, List.set_cons_zero, List.set_cons_succ, i64_w, i32_w]
            rfl
          refine pure_ (i := 4) (N := some 46) (v := ?_) (a' := ?_) #[true, true, true, true, true, false, false, false, false, false, false, false, false] rfl rfl (by kernel_rfl) (fun _ _ _ h => h) (Or.inl ⟨by rfl, ?_⟩) ?_ ?_
          rotate_left
          · intro w'
            go_simp
            with_reducible rfl
          rotate_left
          · simp only [Act.put, List.setIfInBounds_toArray, List.set_cons_zero, List.set_cons_succ, i64_w, i32_w]
            rfl
          refine pure_ (i := 5) (N := some 47) (v := ?_) (a' := ?_) #[true, true, true, true, true, true, false, false, false, false, false, false, false] rfl rfl (by kernel_rfl) (fun _ _ _ h => h) (Or.inl ⟨by rfl, ?_⟩) ?_ ?_
          rotate_left
          · intro w'
            go_simp
            with_reducible rfl
          rotate_left
          · simp only [Act.put, List.setIfInBounds_toArray, List.set_cons_zero, List.set_cons_succ, i64_w, i32_w]
            rfl
          refine pure_ (i := 6) (N := some 48) (v := ?_) (a' := ?_) #[true, true, true, true, true, true, true, false, false, false, false, false, false] rfl rfl (by kernel_rfl) (fun _ _ _ h => h) (Or.inl ⟨by rfl, ?_⟩) ?_ ?_
          rotate_left
          · intro w'
            go_simp
            with_reducible rfl
          rotate_left
          · simp only [Act.put, List.setIfInBounds_toArray, List.set_cons_zero, List.set_cons_succ, i64_w, i32_w]
            rfl
          refine pure_ (i := 7) (N := some 49) (v := ?_) (a' := ?_) #[true, true, true, true, true, true, true, true, false, false, false, false, false] rfl rfl (by kernel_rfl) (fun _ _ _ h => h) (Or.inl ⟨by rfl, ?_⟩) ?_ ?_
          rotate_left
          · intro w'
            go_simp
            with_reducible rfl
          rotate_left
          · simp only [Act.put, List.setIfInBounds_toArray, List.set_cons_zero, List.set_cons_succ, i64_w, i32_w]
            rfl
          refine pure_ (i := 9) (N := some 51) (v := ?_) (a' := ?_) #[true, true, true, true, true, true, true, true, false, true, false, false, false] rfl rfl (by kernel_rfl) (fun _ _ _ h => h) (Or.inl ⟨by rfl, ?_⟩) ?_ ?_
          rotate_left
          · intro w'
            go_simp
            with_reducible rfl
          rotate_left
          · simp only [Act.put, List.setIfInBounds_toArray, List.set_cons_zero, List.set_cons_succ, i64_w, i32_w]
            rfl
          refine pure_ (i := 10) (N := some 52) (v := ?_) (a' := ?_) #[true, true, true, true, true, true, true, true, false, true, true, false, false] rfl rfl (by kernel_rfl) (fun _ _ _ h => h) (Or.inl ⟨by rfl, ?_⟩) ?_ ?_
          rotate_left
          · intro w'
            go_simp
            with_reducible rfl
          rotate_left
          · simp only [Act.put, List.setIfInBounds_toArray, List.set_cons_zero, List.set_cons_succ, i64_w, i32_w]
            rfl
          refine take_ (i := 8) (N := some 50) (v := ?_) (a' := ?_) #[true, true, true, true, true, true, true, true, true, true, true, false, false] rfl rfl (by kernel_rfl) (fun _ _ _ h => h) (Or.inl ⟨by rfl, ?_⟩) hHeld ?_ ?_
          rotate_left
          · rintro w' ⟨s0, s1⟩
            go_simp
            with_reducible rfl
          rotate_left
          · simp only [Act.put, List.setIfInBounds_toArray, List.set_cons_zero, List.set_cons_succ, i64_w, i32_w]
            rfl
          refine pure_ (i := 11) (N := some 53) (v := ?_) (a' := ?_) #[true, true, true, true, true, true, true, true, true, true, true, true, false] rfl rfl (by kernel_rfl) (fun _ _ _ h => h) (Or.inl ⟨by rfl, ?_⟩) ?_ ?_
          rotate_left
          · intro w'
            go_simp
            with_reducible rfl
          rotate_left
          · simp only [Act.put, List.setIfInBounds_toArray, List.set_cons_zero, List.set_cons_succ, i64_w, i32_w]
            rfl
          refine last_ (i := 12) (N := none) #[true, true, true, true, true, true, true, true, true, true, true, true, true] rfl rfl (by kernel_rfl) (by decide) (fun K hK => ?_)
          refine skip_ (w1 := ?_) (by rfl) rfl ?_ ?_
          rotate_left
          · go_simp
            rfl
          refine hK.out _ _ ?_
          clear hK K
          refine done_ (by kernel_rfl) ?_
          have F1b : Chunk ((wr.setCell ⟨w.heap.size, z * 2, none⟩ (.int .u8 pk)).setCell ⟨w.heap.size, z * 2 + 1, none⟩ (.int .u8 pl)).drew w.heap.size _ _ _ := F1.out.below (below_drew (Below.refl _ _)) F1.out.lt
          have B1b : Below w.heap.size w ((wr.setCell ⟨w.heap.size, z * 2, none⟩ (.int .u8 pk)).setCell ⟨w.heap.size, z * 2 + 1, none⟩ (.int .u8 pl)).drew := below_drew (Below.setCell (Below.setCell HF.out.below (Nat.le_refl _) _) (Nat.le_refl _) _)
          generalize ((wr.setCell ⟨w.heap.size, z * 2, none⟩ (.int .u8 pk)).setCell ⟨w.heap.size, z * 2 + 1, none⟩ (.int .u8 pl)).drew = w6 at F1b B1b ⊢
          clear c0 c1 cf0 cf1 q0 q1 q2 q3 q4 q5 p1
          obtain ⟨q0, q1, q2, q3, q4, q5⟩ := HQ.out _ B1b
          obtain ⟨c0, c1⟩ := F1b.atL z hin.2
          have cf0 := F1b.frz (8192 + z * 2)
          have cf1 := F1b.frz (8192 + z * 2 + 1)
          have F2 := Lib.hid (F1b.setL z hin.2 (pq, pr))
          have B1h := Lib.hid B1b
          clear F1b B1b
          --CUT5
          go_wp2_with fail
          refine start_ (n := 13) (S := fun w' => w'.cell? ⟨(ad.add (k * 6)).block, (ad.add (k * 6)).off + 4, none⟩ = some (.int .u8 pq) ∧ w'.cell? ⟨(ad.add (k * 6)).block, (ad.add (k * 6)).off + 4 + 1, none⟩ = some (.int .u8 pr)) (ds := [12]) #[false, false, false, false, false, false, false, false, false, false, false, false, false] (by kernel_rfl) rfl rfl ⟨q4, q5⟩ (fun hHeld => ?_)
          refine pure_ (i := 0) (N := some 54) (v := ?_) (a' := ?_) #[true, false, false, false, false, false, false, false, false, false, false, false, false] rfl rfl (by kernel_rfl) (fun _ _ _ h => h) (Or.inl ⟨by rfl, ?_⟩) ?_ ?_
          rotate_left
          · intro w'
            go_simp
            with_reducible rfl
          rotate_left
          · simp only [Act.put, List.setIfInBounds_toArray, List.set_cons_zero, List.set_cons_succ, i64_w, i32_w]
            rfl
          refine pure_ (i := 1) (N := some 55) (v := ?_) (a' := ?_) #[true, true, false, false, false, false, false, false, false, false, false, false, false] rfl rfl (by kernel_rfl) (fun _ _ _ h => h) (Or.inl ⟨by rfl, ?_⟩) ?_ ?_
          rotate_left
          · intro w'
            go_simp
            with_reducible rfl
          rotate_left
          · simp only [Act.put, List.setIfInBounds_toArray, List.set_cons_zero, List.set_cons_succ, i64_w, i32_w]
            rfl
          refine pure_ (i := 2) (N := some 56) (v := ?_) (a' := ?_) #[true, true, true, false, false, false, false, false, false, false, false, false, false] rfl rfl (by kernel_rfl) (fun _ _ _ h => h) (Or.inl ⟨by rfl, ?_⟩) ?_ ?_
          rotate_left
          · intro w'
            go_simp
            with_reducible rfl
          rotate_left
          · simp only [Act.put, List.setIfInBounds_toArray, List.set_cons_zero, List.set_cons_succ, i64_w, i32_w]
            rfl
          refine pure_ (i := 3) (N := some 57) (v := ?_) (a' := ?_) #[true, true, true, true, false, false, false, false, false, false, false, false, false] rfl rfl (by kernel_rfl) (fun _ _ _ h => h) (Or.inl ⟨by rfl, ?_⟩) ?_ ?_
          rotate_left
          · intro w'
            go_simp
            with_reducible rfl
          rotate_left
          · simp only [Act.put, List.setIfInBounds_toArray, List.set_cons_zero, List.set_cons_succ, i64_w, i32_w]
            rfl
          refine pure_ (i := 4) (N := some 58) (v := ?_) (a' := ?_) #[true, true, true, true, true, false, false, false, false, false, false, false, false] rfl rfl (by kernel_rfl) (fun _ _ _ h => h) (Or.inl ⟨by rfl, ?_⟩) ?_ ?_
          rotate_left
          · intro w'
            go_simp
            with_reducible rfl
          rotate_left
          · simp only [Act.put, List.setIfInBounds_toArray, List.set_cons_zero, List.set_cons_succ, i64_w, i32_w]
            rfl
          refine pure_ (i := 5) (N := some 59) (v := ?_) (a' := ?_) #[true, true, true, true, true, true, false, false, false, false, false, false, false] rfl rfl (by kernel_rfl) (fun _ _ _ h => h) (Or.inl ⟨by rfl, ?_⟩) ?_ ?_
          rotate_left
          · intro w'
            go_simp
            with_reducible rfl
          rotate_left
          · simp only [Act.put, List.setIfInBounds_toArray, List.set_cons_zero, List.set_cons_succ, i64_w, i32_w]
            rfl
          refine pure_ (i := 6) (N := some 60) (v := ?_) (a' := ?_) #[true, true, true, true, true, true, true, false, false, false, false, false, false] rfl rfl (by kernel_rfl) (fun _ _ _ h => h) (Or.inl ⟨by rfl, ?_⟩) ?_ ?_
          rotate_left
          · intro w'
            go_simp
            with_reducible rfl
          rotate_left
          · simp only [Act.put, List.setIfInBounds_toArray, List.set_cons_zero, List.set_cons_succ, i64_w, i32_w]
            rfl
          refine pure_ (i := 7) (N := some 61) (v := ?_) (a' := ?_) #[true, true, true, true, true, true, true, true, false, false, false, false, false] rfl rfl (by kernel_rfl) (fun _ _ _ h => h) (Or.inl ⟨by rfl, ?_⟩) ?_ ?_
          rotate_left
          · intro w'
            go_simp
            with_reducible rfl
          rotate_left
          · simp only [Act.put, List.setIfInBounds_toArray, List.set_cons_zero, List.set_cons_succ, i64_w, i32_w]
            rfl
          refine pure_ (i := 9) (N := some 63) (v := ?_) (a' := ?_) #[true, true, true, true, true, true, true, true, false, true, false, false, false] rfl rfl (by kernel_rfl) (fun _ _ _ h => h) (Or.inl ⟨by rfl, ?_⟩) ?_ ?_
          rotate_left
          · intro w'
            go_simp
            with_reducible rfl
          rotate_left
          · simp only [Act.put, List.setIfInBounds_toArray, List.set_cons_zero, List.set_cons_succ, i64_w, i32_w]
            rfl
          refine pure_ (i := 10) (N := some 64) (v := ?_) (a' := ?_) #[true, true, true, true, true, true, true, true, false, true, true, false, false] rfl rfl (by kernel_rfl) (fun _ _ _ h => h) (Or.inl ⟨by rfl, ?_⟩) ?_ ?_
          rotate_left
          · intro w'
            go_simp
            with_reducible rfl
          rotate_left
          · simp only [Act.put, List.setIfInBounds_toArray, List.set_cons_zero, List.set_cons_succ, i64_w, i32_w]
            rfl
          refine take_ (i := 8) (N := some 62) (v := ?_) (a' := ?_) #[true, true, true, true, true, true, true, true, true, true, true, false, false] rfl rfl (by kernel_rfl) (fun _ _ _ h => h) (Or.inl ⟨by rfl, ?_⟩) hHeld ?_ ?_
          rotate_left
          · rintro w' ⟨s0, s1⟩
            go_simp
            with_reducible rfl
          rotate_left
          · simp only [Act.put, List.setIfInBounds_toArray, List.set_cons_zero, List.set_cons_succ, i64_w, i32_w]
            rfl
          refine pure_ (i := 11) (N := some 65) (v := ?_) (a' := ?_) #[true, true, true, true, true, true, true, true, true, true, true, true, false] rfl rfl (by kernel_rfl) (fun _ _ _ h => h) (Or.inl ⟨by rfl, ?_⟩) ?_ ?_
          rotate_left
          · intro w'
            go_simp
            with_reducible rfl
          rotate_left
          · simp only [Act.put, List.setIfInBounds_toArray, List.set_cons_zero, List.set_cons_succ, i64_w, i32_w]
            rfl
          refine last_ (i := 12) (N := none) #[true, true, true, true, true, true, true, true, true, true, true, true, true] rfl rfl (by kernel_rfl) (by decide) (fun K hK => ?_)
          refine skip_ (w1 := ?_) (by rfl) rfl ?_ ?_
          rotate_left
          · go_simp
            rfl
          refine hK.out _ _ ?_
          clear hK K
          refine done_ (by kernel_rfl) ?_
          have F2b : Chunk ((w6.setCell ⟨w.heap.size, 8192 + z * 2, none⟩ (.int .u8 pq)).setCell ⟨w.heap.size, 8192 + z * 2 + 1, none⟩ (.int .u8 pr)).drew w.heap.size _ _ _ := F2.out.below (below_drew (Below.refl _ _)) F2.out.lt
          have B2b : Below w.heap.size w ((w6.setCell ⟨w.heap.size, 8192 + z * 2, none⟩ (.int .u8 pq)).setCell ⟨w.heap.size, 8192 + z * 2 + 1, none⟩ (.int .u8 pr)).drew := below_drew (Below.setCell (Below.setCell B1h.out (Nat.le_refl _) _) (Nat.le_refl _) _)
          generalize ((w6.setCell ⟨w.heap.size, 8192 + z * 2, none⟩ (.int .u8 pq)).setCell ⟨w.heap.size, 8192 + z * 2 + 1, none⟩ (.int .u8 pr)).drew = w7 at F2b B2b ⊢
          clear c0 c1 cf0 cf1 q0 q1 q2 q3 q4 q5
          have HG := Lib.hid (⟨B2b, by rw [fillN, fillN, ← HZ.out]; exact F2b⟩ : Fi w w7 w.heap.size C L at_ (i + 1) (pk, pl) (pq, pr))
          clear F2b B2b
          go_wp2
          go_roundw
          case rel => exact ⟨i + 1, HI1.out, by go_num, ⟨HG.out⟩⟩
          case measure => simp [intOf]; omega
        · --CUT2
          have him : i = many (pa, pm, (pk, pl), (pq, pr)) := many_end z at_ i _ pm hmany hz hi hin
          have HB2 := Lib.hid hf.below
          have HC2 := Lib.hid (show Chunk wr w.heap.size (madeP (ps.take (k + 1))).1 (madeP (ps.take (k + 1))).2 (.slice none 0 0) by
            rw [HST.out.trans (step_at C L pa pm (pk, pl) (pq, pr) at_ i HAT.out him)]
            exact hf.ch)
          clear hf him hmany hi
          have hk2 : k + 1 ≤ ps.length ∧ k + 1 ≤ 300 := ⟨hlt.1, hlt.2⟩
          by_cases h1 : (i : Int) < pm
          · --CUT3
            have he1 := decide_eq_true h1
            have he2 := decide_eq_false (show ¬ (z : Int) < 4096 by omega)
            have he3 := decide_eq_false (show ¬ (at_ : Int) + (i : Int) < 4096 by omega)
            clear hz hin
            go_wp2
            go_roundw
            case rel => exact ⟨k + 1, hk2.1, hk2.2, by go_num, ⟨HB2.out⟩, ⟨HC2.out⟩⟩
            case measure => simp [intOf]; omega
          · --CUT4
            have he1 := decide_eq_false h1
            clear hz hin
            go_wp2
            go_roundw
            case rel => exact ⟨k + 1, hk2.1, hk2.2, by go_num, ⟨HB2.out⟩, ⟨HC2.out⟩⟩
            case measure => simp [intOf]; omega
    · have hkt : ps.take k = ps.take 300 := by
        by_cases h : k < ps.length
        · rw [show k = 300 by omega]
        · rw [List.take_of_length_le (by omega), List.take_of_length_le (by omega)]
      rw [hkt] at hch
      have HCE := Lib.hid hch
      have HTE := Lib.hid (C_takeT (Kd.C_below HT.out hb) (min T.length 5000) (by omega))
      clear HC hb hch hw5 hand hkt
      have ct := HCE.out.atT
      obtain ⟨m, hmm⟩ : ∃ m : Nat, m = min T.length 5000 := ⟨_, rfl⟩
      have hts : T.take (min T.length 5000) = T.take 5000 := by
        by_cases h : T.length ≤ 5000
        · rw [Nat.min_eq_left h, List.take_length, List.take_of_length_le h]
        · rw [Nat.min_eq_right (by omega)]
      rw [hts, ← hmm] at HTE
      have hml : (T.take 5000).length = m := by rw [List.length_take]; omega
      have kmin : (if (5000 : Int) < (T.length : Int) then (5000 : Int) else (T.length : Int)) = (m : Int) := by split <;> omega
      have hcut := cut_to (P := Try.prog) 23 48 .i64 Try.underlying23 (info_parts infoTick).choose_spec.1 tA T.length tc (m : Int) (by omega) (by omega) hc
      simp only [Int.toNat_natCast] at hcut
      have hm5 : m ≤ 5000 := by omega
      obtain ⟨T5, hT5⟩ : ∃ T5, T.take 5000 = T5 := ⟨_, rfl⟩
      rw [hT5] at HTE hml
      have HT5 := Lib.hid hT5
      have READ := Lib.hid (fun W (hb : Below wr.heap.size wr W) => (ReadsRow.imp_ HTE hb (fun x cs h => kT_open h) : ReadsRow (fun x cs => cs = [.int .i64 x.1, .int .i64 x.2]) 2 W tA m T5))
      have HBE := HB
      clear hmm hts hT5 HTE
      by_cases h1 : k < ps.length
      · have hd1 := decide_eq_true (show (k : Int) < (ps.length : Int) by omega)
        have hd2 := decide_eq_false (show ¬ (k : Int) < 300 by omega)
        clear hlt
        go_wp2_with fail
        refine start_ (n := 14) (S := fun w' => w'.cell? ⟨w.heap.size, 16384, none⟩ = some (.slice none 0 0)) (ds := [13]) #[false, false, false, false, false, false, false, false, false, false, false, false, false, false] (by kernel_rfl) rfl rfl (ct) (fun hHeld => ?_)
        refine pure_ (i := 0) (N := some 66) (v := ?_) (a' := ?_) #[true, false, false, false, false, false, false, false, false, false, false, false, false, false] rfl rfl (by kernel_rfl) (fun _ _ _ h => h) (Or.inl ⟨by rfl, ?_⟩) ?_ ?_
        rotate_left
        · intro w'
          go_simp
          with_reducible rfl
        rotate_left
        · simp only [Act.put, List.setIfInBounds_toArray, List.set_cons_zero, List.set_cons_succ, i64_w, i32_w]
          rfl
        refine pure_ (i := 1) (N := some 67) (v := ?_) (a' := ?_) #[true, true, false, false, false, false, false, false, false, false, false, false, false, false] rfl rfl (by kernel_rfl) (fun _ _ _ h => h) (Or.inl ⟨by rfl, ?_⟩) ?_ ?_
        rotate_left
        · intro w'
          go_simp
          with_reducible rfl
        rotate_left
        · simp only [Act.put, List.setIfInBounds_toArray, List.set_cons_zero, List.set_cons_succ, i64_w, i32_w]
          rfl
        refine pure_ (i := 2) (N := some 68) (v := ?_) (a' := ?_) #[true, true, true, false, false, false, false, false, false, false, false, false, false, false] rfl rfl (by kernel_rfl) (fun _ _ _ h => h) (Or.inl ⟨by rfl, ?_⟩) ?_ ?_
        rotate_left
        · intro w'
          go_simp
          with_reducible rfl
        rotate_left
        · simp only [Act.put, List.setIfInBounds_toArray, List.set_cons_zero, List.set_cons_succ, i64_w, i32_w]
          rfl
        refine pure_ (i := 3) (N := some 69) (v := ?_) (a' := ?_) #[true, true, true, true, false, false, false, false, false, false, false, false, false, false] rfl rfl (by kernel_rfl) (fun _ _ _ h => h) (Or.inl ⟨by rfl, ?_⟩) ?_ ?_
        rotate_left
        · intro w'
          go_simp
          with_reducible rfl
        rotate_left
        · simp only [Act.put, List.setIfInBounds_toArray, List.set_cons_zero, List.set_cons_succ, i64_w, i32_w]
          rfl
        refine pure_ (i := 5) (N := some 71) (v := ?_) (a' := ?_) #[true, true, true, true, false, true, false, false, false, false, false, false, false, false] rfl rfl (by kernel_rfl) (fun _ _ _ h => h) (Or.inl ⟨by rfl, ?_⟩) ?_ ?_
        rotate_left
        · intro w'
          go_simp
          with_reducible rfl
        rotate_left
        · simp only [Act.put, List.setIfInBounds_toArray, List.set_cons_zero, List.set_cons_succ, i64_w, i32_w]
          rfl
        refine pure_ (i := 6) (N := some 72) (v := ?_) (a' := ?_) #[true, true, true, true, false, true, true, false, false, false, false, false, false, false] rfl rfl (by kernel_rfl) (fun _ _ _ h => h) (Or.inl ⟨by rfl, ?_⟩) ?_ ?_
        rotate_left
        · intro w'
          go_simp
          with_reducible rfl
        rotate_left
        · simp only [Act.put, List.setIfInBounds_toArray, List.set_cons_zero, List.set_cons_succ, i64_w, i32_w]
          rfl
        refine pure_ (i := 7) (N := some 73) (v := ?_) (a' := ?_) #[true, true, true, true, false, true, true, true, false, false, false, false, false, false] rfl rfl (by kernel_rfl) (fun _ _ _ h => h) (Or.inl ⟨by rfl, ?_⟩) ?_ ?_
        rotate_left
        · intro w'
          go_simp
          with_reducible rfl
        rotate_left
        · simp only [Act.put, List.setIfInBounds_toArray, List.set_cons_zero, List.set_cons_succ, i64_w, i32_w]
          rfl
        refine pure_ (i := 8) (N := some 74) (v := ?_) (a' := ?_) #[true, true, true, true, false, true, true, true, true, false, false, false, false, false] rfl rfl (by kernel_rfl) (fun _ _ _ h => h) (Or.inl ⟨by rfl, ?_⟩) ?_ ?_
        rotate_left
        · intro w'
          go_simp
          with_reducible rfl
        rotate_left
        · simp only [Act.put, List.setIfInBounds_toArray, List.set_cons_zero, List.set_cons_succ, i64_w, i32_w]
          rfl
        refine pure_ (i := 9) (N := some 75) (v := ?_) (a' := ?_) #[true, true, true, true, false, true, true, true, true, true, false, false, false, false] rfl rfl (by kernel_rfl) (fun _ _ _ h => h) (Or.inl ⟨by rfl, ?_⟩) ?_ ?_
        rotate_left
        · intro w'
          go_simp
          with_reducible rfl
        rotate_left
        · simp only [Act.put, List.setIfInBounds_toArray, List.set_cons_zero, List.set_cons_succ, i64_w, i32_w]
          rfl
        refine take_ (i := 4) (N := some 70) (v := ?_) (a' := ?_) #[true, true, true, true, true, true, true, true, true, true, false, false, false, false] rfl rfl (by kernel_rfl) (fun _ _ _ h => h) (Or.inl ⟨by rfl, ?_⟩) hHeld ?_ ?_
        rotate_left
        · intro w' s0
          go_simp
          with_reducible rfl
        rotate_left
        · simp only [Act.put, List.setIfInBounds_toArray, List.set_cons_zero, List.set_cons_succ, i64_w, i32_w]
          rfl
        refine one_ (i := 10) (N := some 76) #[true, true, true, true, true, true, true, true, true, true, true, false, false, false] rfl rfl (by kernel_rfl) (by decide) (fun K hK => ?_)
        refine Kd.R_append_rows_step kT (Rr := fun x cs => cs = [.int .i64 x.1, .int .i64 x.2]) w.heap.size (by rfl) (.tmp 70) (.tmp 75) 23 48 (.agg #[.int .i64 0, .int .i64 0]) 16 rfl Try.underlying23 infoTick (by rfl) (by decide) (by decide) (.slice none 0 0) [] T5 tA m tc (fun k => k ≠ w.heap.size) (fun _ => False) rfl rfl (Kd.R_nil _ _ _ _ _) (READ.out _ (below_drew (Below.refl _ _))) (fun x cs h => ⟨[_], [_], h, rfl, rfl⟩) (fun _ h => h.elim) (fun q hq => by have := HCE.out.lt; simp only [World.size_drew] at hq; omega) (below_drew HBE.out) (by exact HBE.out.size) (by simp only [List.length_nil]; omega) ?_
        intro v9 w9 hr9 hb9 hg9 hat9
        have HC9 := Lib.hid (HCE.out.grown (World.grownBy.trans (gofBelow (row := none) (below_drew (Below.refl _ _))) hg9) (by simp [Value.ownBlock]))
        obtain ⟨A9, c9, rfl, hc9, hd9⟩ := Kd.R_reads hr9
        have HR9 := Lib.hid hr9
        have HB9 := Lib.hid hb9
        clear hr9 hd9 hb9 hg9 hat9
        simp only [List.nil_append] at hc9 ⊢
        have t9 := HC9.out.atT
        have cf9 := HC9.out.frz 16384
        refine hK.out _ _ (t9) (fun hHeld => ?_)
        clear hK K
        refine norm_ (a' := ?_) ?_ ?_
        rotate_left
        · show Act.put _ (some 76) _ = _
          simp only [Act.put, List.setIfInBounds_toArray, List.set_cons_zero, List.set_cons_succ, i64_w, i32_w]
          rfl
        refine pure_ (i := 11) (N := some 77) (v := ?_) (a' := ?_) #[true, true, true, true, true, true, true, true, true, true, true, true, false, false] rfl rfl (by kernel_rfl) (fun _ _ _ h => h) (Or.inl ⟨by rfl, ?_⟩) ?_ ?_
        rotate_left
        · intro w'
          go_simp
          with_reducible rfl
        rotate_left
        · simp only [Act.put, List.setIfInBounds_toArray, List.set_cons_zero, List.set_cons_succ, i64_w, i32_w]
          rfl
        refine pure_ (i := 12) (N := some 78) (v := ?_) (a' := ?_) #[true, true, true, true, true, true, true, true, true, true, true, true, true, false] rfl rfl (by kernel_rfl) (fun _ _ _ h => h) (Or.inl ⟨by rfl, ?_⟩) ?_ ?_
        rotate_left
        · intro w'
          go_simp
          with_reducible rfl
        rotate_left
        · simp only [Act.put, List.setIfInBounds_toArray, List.set_cons_zero, List.set_cons_succ, i64_w, i32_w]
          rfl
        refine last_ (i := 13) (N := none) #[true, true, true, true, true, true, true, true, true, true, true, true, true, true] rfl rfl (by kernel_rfl) (by decide) (fun K hK => ?_)
        refine skip_ (w1 := ?_) (by rfl) rfl ?_ ?_
        rotate_left
        · go_simp
          rfl
        refine hK.out _ _ ?_
        clear hK K
        refine done_ (by kernel_rfl) ?_
        go_wp2
        go_ret
        refine ⟨.slice A9 m c9, rfl, ?_, ?_, ?_⟩
        · exact (HC9.out.setT _)
        · exact ⟨A9, c9, by rw [HT5.out, hml], by rw [HT5.out]; exact hc9, by
            have h := Kd.R_reads' (Kd.R_far HR9.out (p := ⟨w.heap.size, 16384, none⟩) (fun k hk => hk) (.slice A9 m c9))
            rw [HT5.out]
            exact h.2.2⟩
        · exact Below.setCell HB9.out (Nat.le_refl _) _
      · have hd1 := decide_eq_false (show ¬ (k : Int) < (ps.length : Int) by omega)
        clear hlt
        go_wp2_with fail
        refine start_ (n := 14) (S := fun w' => w'.cell? ⟨w.heap.size, 16384, none⟩ = some (.slice none 0 0)) (ds := [13]) #[false, false, false, false, false, false, false, false, false, false, false, false, false, false] (by kernel_rfl) rfl rfl (ct) (fun hHeld => ?_)
        refine pure_ (i := 0) (N := some 66) (v := ?_) (a' := ?_) #[true, false, false, false, false, false, false, false, false, false, false, false, false, false] rfl rfl (by kernel_rfl) (fun _ _ _ h => h) (Or.inl ⟨by rfl, ?_⟩) ?_ ?_
        rotate_left
        · intro w'
          go_simp
          with_reducible rfl
        rotate_left
        · simp only [Act.put, List.setIfInBounds_toArray, List.set_cons_zero, List.set_cons_succ, i64_w, i32_w]
          rfl
        refine pure_ (i := 1) (N := some 67) (v := ?_) (a' := ?_) #[true, true, false, false, false, false, false, false, false, false, false, false, false, false] rfl rfl (by kernel_rfl) (fun _ _ _ h => h) (Or.inl ⟨by rfl, ?_⟩) ?_ ?_
        rotate_left
        · intro w'
          go_simp
          with_reducible rfl
        rotate_left
        · simp only [Act.put, List.setIfInBounds_toArray, List.set_cons_zero, List.set_cons_succ, i64_w, i32_w]
          rfl
        refine pure_ (i := 2) (N := some 68) (v := ?_) (a' := ?_) #[true, true, true, false, false, false, false, false, false, false, false, false, false, false] rfl rfl (by kernel_rfl) (fun _ _ _ h => h) (Or.inl ⟨by rfl, ?_⟩) ?_ ?_
        rotate_left
        · intro w'
          go_simp
          with_reducible rfl
        rotate_left
        · simp only [Act.put, List.setIfInBounds_toArray, List.set_cons_zero, List.set_cons_succ, i64_w, i32_w]
          rfl
        refine pure_ (i := 3) (N := some 69) (v := ?_) (a' := ?_) #[true, true, true, true, false, false, false, false, false, false, false, false, false, false] rfl rfl (by kernel_rfl) (fun _ _ _ h => h) (Or.inl ⟨by rfl, ?_⟩) ?_ ?_
        rotate_left
        · intro w'
          go_simp
          with_reducible rfl
        rotate_left
        · simp only [Act.put, List.setIfInBounds_toArray, List.set_cons_zero, List.set_cons_succ, i64_w, i32_w]
          rfl
        refine pure_ (i := 5) (N := some 71) (v := ?_) (a' := ?_) #[true, true, true, true, false, true, false, false, false, false, false, false, false, false] rfl rfl (by kernel_rfl) (fun _ _ _ h => h) (Or.inl ⟨by rfl, ?_⟩) ?_ ?_
        rotate_left
        · intro w'
          go_simp
          with_reducible rfl
        rotate_left
        · simp only [Act.put, List.setIfInBounds_toArray, List.set_cons_zero, List.set_cons_succ, i64_w, i32_w]
          rfl
        refine pure_ (i := 6) (N := some 72) (v := ?_) (a' := ?_) #[true, true, true, true, false, true, true, false, false, false, false, false, false, false] rfl rfl (by kernel_rfl) (fun _ _ _ h => h) (Or.inl ⟨by rfl, ?_⟩) ?_ ?_
        rotate_left
        · intro w'
          go_simp
          with_reducible rfl
        rotate_left
        · simp only [Act.put, List.setIfInBounds_toArray, List.set_cons_zero, List.set_cons_succ, i64_w, i32_w]
          rfl
        refine pure_ (i := 7) (N := some 73) (v := ?_) (a' := ?_) #[true, true, true, true, false, true, true, true, false, false, false, false, false, false] rfl rfl (by kernel_rfl) (fun _ _ _ h => h) (Or.inl ⟨by rfl, ?_⟩) ?_ ?_
        rotate_left
        · intro w'
          go_simp
          with_reducible rfl
        rotate_left
        · simp only [Act.put, List.setIfInBounds_toArray, List.set_cons_zero, List.set_cons_succ, i64_w, i32_w]
          rfl
        refine pure_ (i := 8) (N := some 74) (v := ?_) (a' := ?_) #[true, true, true, true, false, true, true, true, true, false, false, false, false, false] rfl rfl (by kernel_rfl) (fun _ _ _ h => h) (Or.inl ⟨by rfl, ?_⟩) ?_ ?_
        rotate_left
        · intro w'
          go_simp
          with_reducible rfl
        rotate_left
        · simp only [Act.put, List.setIfInBounds_toArray, List.set_cons_zero, List.set_cons_succ, i64_w, i32_w]
          rfl
        refine pure_ (i := 9) (N := some 75) (v := ?_) (a' := ?_) #[true, true, true, true, false, true, true, true, true, true, false, false, false, false] rfl rfl (by kernel_rfl) (fun _ _ _ h => h) (Or.inl ⟨by rfl, ?_⟩) ?_ ?_
        rotate_left
        · intro w'
          go_simp
          with_reducible rfl
        rotate_left
        · simp only [Act.put, List.setIfInBounds_toArray, List.set_cons_zero, List.set_cons_succ, i64_w, i32_w]
          rfl
        refine take_ (i := 4) (N := some 70) (v := ?_) (a' := ?_) #[true, true, true, true, true, true, true, true, true, true, false, false, false, false] rfl rfl (by kernel_rfl) (fun _ _ _ h => h) (Or.inl ⟨by rfl, ?_⟩) hHeld ?_ ?_
        rotate_left
        · intro w' s0
          go_simp
          with_reducible rfl
        rotate_left
        · simp only [Act.put, List.setIfInBounds_toArray, List.set_cons_zero, List.set_cons_succ, i64_w, i32_w]
          rfl
        refine one_ (i := 10) (N := some 76) #[true, true, true, true, true, true, true, true, true, true, true, false, false, false] rfl rfl (by kernel_rfl) (by decide) (fun K hK => ?_)
        refine Kd.R_append_rows_step kT (Rr := fun x cs => cs = [.int .i64 x.1, .int .i64 x.2]) w.heap.size (by rfl) (.tmp 70) (.tmp 75) 23 48 (.agg #[.int .i64 0, .int .i64 0]) 16 rfl Try.underlying23 infoTick (by rfl) (by decide) (by decide) (.slice none 0 0) [] T5 tA m tc (fun k => k ≠ w.heap.size) (fun _ => False) rfl rfl (Kd.R_nil _ _ _ _ _) (READ.out _ (below_drew (Below.refl _ _))) (fun x cs h => ⟨[_], [_], h, rfl, rfl⟩) (fun _ h => h.elim) (fun q hq => by have := HCE.out.lt; simp only [World.size_drew] at hq; omega) (below_drew HBE.out) (by exact HBE.out.size) (by simp only [List.length_nil]; omega) ?_
        intro v9 w9 hr9 hb9 hg9 hat9
        have HC9 := Lib.hid (HCE.out.grown (World.grownBy.trans (gofBelow (row := none) (below_drew (Below.refl _ _))) hg9) (by simp [Value.ownBlock]))
        obtain ⟨A9, c9, rfl, hc9, hd9⟩ := Kd.R_reads hr9
        have HR9 := Lib.hid hr9
        have HB9 := Lib.hid hb9
        clear hr9 hd9 hb9 hg9 hat9
        simp only [List.nil_append] at hc9 ⊢
        have t9 := HC9.out.atT
        have cf9 := HC9.out.frz 16384
        refine hK.out _ _ (t9) (fun hHeld => ?_)
        clear hK K
        refine norm_ (a' := ?_) ?_ ?_
        rotate_left
        · show Act.put _ (some 76) _ = _
          simp only [Act.put, List.setIfInBounds_toArray, List.set_cons_zero, List.set_cons_succ, i64_w, i32_w]
          rfl
        refine pure_ (i := 11) (N := some 77) (v := ?_) (a' := ?_) #[true, true, true, true, true, true, true, true, true, true, true, true, false, false] rfl rfl (by kernel_rfl) (fun _ _ _ h => h) (Or.inl ⟨by rfl, ?_⟩) ?_ ?_
        rotate_left
        · intro w'
          go_simp
          with_reducible rfl
        rotate_left
        · simp only [Act.put, List.setIfInBounds_toArray, List.set_cons_zero, List.set_cons_succ, i64_w, i32_w]
          rfl
        refine pure_ (i := 12) (N := some 78) (v := ?_) (a' := ?_) #[true, true, true, true, true, true, true, true, true, true, true, true, true, false] rfl rfl (by kernel_rfl) (fun _ _ _ h => h) (Or.inl ⟨by rfl, ?_⟩) ?_ ?_
        rotate_left
        · intro w'
          go_simp
          with_reducible rfl
        rotate_left
        · simp only [Act.put, List.setIfInBounds_toArray, List.set_cons_zero, List.set_cons_succ, i64_w, i32_w]
          rfl
        refine last_ (i := 13) (N := none) #[true, true, true, true, true, true, true, true, true, true, true, true, true, true] rfl rfl (by kernel_rfl) (by decide) (fun K hK => ?_)
        refine skip_ (w1 := ?_) (by rfl) rfl ?_ ?_
        rotate_left
        · go_simp
          rfl
        refine hK.out _ _ ?_
        clear hK K
        refine done_ (by kernel_rfl) ?_
        go_wp2
        go_ret
        refine ⟨.slice A9 m c9, rfl, ?_, ?_, ?_⟩
        · exact (HC9.out.setT _)
        · exact ⟨A9, c9, by rw [HT5.out, hml], by rw [HT5.out]; exact hc9, by
            have h := Kd.R_reads' (Kd.R_far HR9.out (p := ⟨w.heap.size, 16384, none⟩) (fun k hk => hk) (.slice A9 m c9))
            rw [HT5.out]
            exact h.2.2⟩
        · exact Below.setCell HB9.out (Nat.le_refl _) _
end Go.Proofs.Ytkecppgodmbmlaa.PK

namespace Go.Proofs.Ytkecppgodmbmlaa.PK
open Go.RowKit Go.Proofs.YtkecppgodmbmlaaW.PrintWords Go.Proofs.YtkecppgodmbmlaaW.PrintLast Go.Proofs.YtkecppgodmbmlaaW.PrintMore Go.Proofs.Ytkecppgodmbmlaa.CD Go.Proofs.Ytkecppgodmbmlaa.BR
attribute [local go_sem] max2_int min2_int max_two min_two max_three min_three max_four min_four
set_option linter.unusedVariables false
set_option linter.unusedSimpArgs false
set_option maxHeartbeats 2000000 in
set_option maxRecDepth 100000 in
theorem Made_calls (A tA : Option Addr) (c tc : Nat) (ps : List Pt) (T : List Pr) (w : World) (hl : ps.length ≤ 140737488355328) (hP : Pts w A ps) (hT : Kd.C kT w tA T.length T) (hc : T.length ≤ tc) (hm : tc ≤ maxLen) (hT5 : T.length ≤ 5000) :
    Calls Try.prog 11 #[.slice A ps.length c, .slice tA T.length tc] w fun e w' => ∃ v, e = .returned (.pointer (some ⟨w.heap.size, 0, none⟩)) ∧ Chunk w' w.heap.size (madeP (ps.take 1000)).1 (madeP (ps.take 1000)).2 v ∧ TK w' v T ∧ Below w.heap.size w w' := by
  have hbu := run_zero
  have hbo := run_box
  have HP := Lib.hid hP
  have HT := Lib.hid hT
  have hand := and4095
  clear hP hT
  go_enter Try.func11, Try.ntmps11
  go_wp2
  clear hbu hbo
  generalize Value.agg zero = u9
  go_loopw [6] (fun kv W => ∃ k : Nat, k ≤ ps.length ∧ k ≤ 1000 ∧ kv = .int .i64 (k : Int) ∧ Aside0 (Below w.heap.size w W) ∧ Aside0 (Chunk W w.heap.size (madeP (ps.take k)).1 (madeP (ps.take k)).2 (.slice none 0 0))) (fun kv _ => 1000 - (intOf kv).toNat)
  case atStart => exact ⟨0, by omega, by omega, rfl, ⟨below_alloc (Below.refl _ _) _⟩, ⟨chunk_new w⟩⟩
  case round =>
    obtain ⟨k, hk, hk3, rfl, ⟨hb⟩, ⟨hch⟩⟩ := hrel
    have HB := Lib.hid hb
    have HC := Lib.hid hch
    obtain ⟨w5, hw5⟩ : ∃ w5, w5 = wr := ⟨_, rfl⟩
    by_cases hlt : k < ps.length ∧ k < 1000
    · have hd1 := decide_eq_true (show (k : Int) < (ps.length : Int) by omega)
      have hd2 := decide_eq_true (show (k : Int) < 1000 by omega)
      obtain ⟨ad, rfl, P0⟩ := HP.out k hlt.1
      obtain ⟨p, hp⟩ : ∃ p, ps.getD k Q0 = p := ⟨_, rfl⟩
      rw [hp] at P0
      obtain ⟨pa, pm, ⟨pk, pl⟩, ⟨pq, pr⟩⟩ := p
      simp only at P0
      have HQ := Lib.hid (fun W (hb : Below w.heap.size w W) => (⟨Lib.Below.cellOf hb P0.1 (Nat.le_refl _), Lib.Below.cellOf hb P0.2.1 (Nat.le_refl _), Lib.Below.cellOf hb P0.2.2.1 (Nat.le_refl _), Lib.Below.cellOf hb P0.2.2.2.1 (Nat.le_refl _), Lib.Below.cellOf hb P0.2.2.2.2.1 (Nat.le_refl _), Lib.Below.cellOf hb P0.2.2.2.2.2 (Nat.le_refl _)⟩ : 
        W.cell? (ad.add (k * 6)) = some (.int .i64 pa) ∧ W.cell? ⟨(ad.add (k * 6)).block, (ad.add (k * 6)).off + 1, none⟩ = some (.int .i64 pm) ∧ W.cell? ⟨(ad.add (k * 6)).block, (ad.add (k * 6)).off + 2, none⟩ = some (.int .u8 pk) ∧ W.cell? ⟨(ad.add (k * 6)).block, (ad.add (k * 6)).off + 2 + 1, none⟩ = some (.int .u8 pl) ∧ W.cell? ⟨(ad.add (k * 6)).block, (ad.add (k * 6)).off + 4, none⟩ = some (.int .u8 pq) ∧ W.cell? ⟨(ad.add (k * 6)).block, (ad.add (k * 6)).off + 4 + 1, none⟩ = some (.int .u8 pr)))
      have p0 := (HQ.out _ hb).1
      clear P0
      obtain ⟨at_, hat⟩ : ∃ n : Nat, (n : Int) = pa % 4096 := ⟨(pa % 4096).toNat, by omega⟩
      have hat4 : at_ < 4096 := by omega
      have ha0 : bits .and .i64 pa 4095 = (at_ : Int) := (hand pa).trans hat.symm
      have r1 : (0 ≤ (k : Int)) = True := eq_true (by omega)
      have r2 : ((k : Int) < (ps.length : Int)) = True := eq_true (by omega)
      obtain ⟨C, hCC⟩ : ∃ C, (madeP (ps.take k)).1 = C := ⟨_, rfl⟩
      obtain ⟨L, hLL⟩ : ∃ L, (madeP (ps.take k)).2 = L := ⟨_, rfl⟩
      rw [hCC, hLL] at hch
      have HST := Lib.hid (show madeP (ps.take (k + 1)) = stepM (C, L) (pa, pm, (pk, pl), (pq, pr)) by rw [takeP_next ps k hlt.1, madeP_snoc, hp, ← hCC, ← hLL])
      have HF0 := Lib.hid (⟨hb, hch⟩ : Fi w wr w.heap.size C L at_ 0 (pk, pl) (pq, pr))
      have HW5 := Lib.hid hw5
      have HAT := Lib.hid hat
      clear hb hch hCC hLL hp hw5 hat hand
      go_wp2
      go_loopw [8] (fun iv W => ∃ i : Nat, i ≤ many (pa, pm, (pk, pl), (pq, pr)) ∧ iv = .int .i64 (i : Int) ∧ Aside0 (Fi w W w.heap.size C L at_ i (pk, pl) (pq, pr))) (fun iv _ => 4096 - (intOf iv).toNat)
      case atStart => exact ⟨0, by omega, rfl, ⟨HF0.out⟩⟩
      case round =>
        obtain ⟨i, hi, rfl, ⟨hf⟩⟩ := hrel
        have HF := Lib.hid hf
        clear p0
        have hmany := many_at pa pm (pk, pl) (pq, pr) at_ HAT.out
        have p1 := (HQ.out _ hf.below).2.1
        obtain ⟨z, hz⟩ : ∃ z : Nat, z = at_ + i := ⟨_, rfl⟩
        have ew : wrap64 ((at_ : Int) + (i : Int)) = (z : Int) := by unfold wrap64; omega
        have HZ := Lib.hid hz
        by_cases hin : (i : Int) < pm ∧ z < 4096
        · --CUT1
          have HI1 := Lib.hid (many_lt z at_ i _ pm hmany hz hin)
          clear hmany hi
          have hil : i < 4096 := by omega
          have he1 := decide_eq_true hin.1
          have he2 := decide_eq_true (show (z : Int) < 4096 by omega)
          have he3 := decide_eq_true (show (at_ : Int) + (i : Int) < 4096 by omega)
          obtain ⟨q0, q1, q2, q3, q4, q5⟩ := HQ.out _ hf.below
          obtain ⟨c0, c1⟩ := hf.ch.atC z hin.2
          have cf0 := hf.ch.frz (z * 2)
          have cf1 := hf.ch.frz (z * 2 + 1)
          have r3 : (0 ≤ (z : Int)) = True := eq_true (by omega)
          have r4 : ((z : Int) < 4096) = True := eq_true (by omega)
          have F1 := Lib.hid (hf.ch.setC z hin.2 (pk, pl))
          clear hf hz
          go_wp2_with fail
          refine start_ (n := 13) (S := fun w' => w'.cell? ⟨(ad.add (k * 6)).block, (ad.add (k * 6)).off + 2, none⟩ = some (.int .u8 pk) ∧ w'.cell? ⟨(ad.add (k * 6)).block, (ad.add (k * 6)).off + 2 + 1, none⟩ = some (.int .u8 pl)) (ds := [12]) #[false, false, false, false, false, false, false, false, false, false, false, false, false] (by kernel_rfl) rfl rfl ⟨q2, q3⟩ (fun hHeld => ?_)
          refine pure_ (i := 0) (N := some 42) (v := ?_) (a' := ?_) #[true, false, false, false, false, false, false, false, false, false, false, false, false] rfl rfl (by kernel_rfl) (fun _ _ _ h => h) (Or.inl ⟨by rfl, ?_⟩) ?_ ?_
          rotate_left
          · intro w'
            go_simp
            with_reducible rfl
          rotate_left
          · simp only [Act.put, List.setIfInBounds_toArray, List.set_cons_zero, List.set_cons_succ, i64_w, i32_w]
            rfl
          refine pure_ (i := 1) (N := some 43) (v := ?_) (a' := ?_) #[true, true, false, false, false, false, false, false, false, false, false, false, false] rfl rfl (by kernel_rfl) (fun _ _ _ h => h) (Or.inl ⟨by rfl, ?_⟩) ?_ ?_
          rotate_left
          · intro w'
            go_simp
            with_reducible rfl
          rotate_left
          · simp only [Act.put, List.setIfInBounds_toArray, List.set_cons_zero, List.set_cons_succ, i64_w, i32_w]
            rfl
          refine pure_ (i := 2) (N := some 44) (v := ?_) (a' := ?_) #[true, true, true, false, false, false, false, false, false, false, false, false, false] rfl rfl (by kernel_rfl) (fun _ _ _ h => h) (Or.inl ⟨by rfl, ?_⟩) ?_ ?_
          rotate_left
          · intro w'
            go_simp
            with_reducible rfl
          rotate_left
          · simp only [Act.put, List.setIfInBounds_toArray, List.set_cons_zero, List.set_cons_succ, i64_w, i32_w]
            rfl
          refine pure_ (i := 3) (N := some 45) (v := ?_) (a' := ?_) #[true, true, true, true, false, false, false, false, false, false, false, false, false] rfl rfl (by kernel_rfl) (fun _ _ _ h => h) (Or.inl ⟨by rfl, ?_⟩) ?_ ?_
          rotate_left
          · intro w'
            go_simp
            with_reducible rfl
          rotate_left
          · simp only [Act.put, List.setIfInBounds_toArray, List.set_cons_zero, List.set_cons_succ, i64_w, i32_w]
            rfl
          refine pure_ (i := 4) (N := some 46) (v := ?_) (a' := ?_) #[true, true, true, true, true, false, false, false, false, false, false, false, false] rfl rfl (by kernel_rfl) (fun _ _ _ h => h) (Or.inl ⟨by rfl, ?_⟩) ?_ ?_
          rotate_left
          · intro w'
            go_simp
            with_reducible rfl
          rotate_left
          · simp only [Act.put, List.setIfInBounds_toArray, List.set_cons_zero, List.set_cons_succ, i64_w, i32_w]
            rfl
          refine pure_ (i := 5) (N := some 47) (v := ?_) (a' := ?_) #[true, true, true, true, true, true, false, false, false, false, false, false, false] rfl rfl (by kernel_rfl) (fun _ _ _ h => h) (Or.inl ⟨by rfl, ?_⟩) ?_ ?_
          rotate_left
          · intro w'
            go_simp
            with_reducible rfl
          rotate_left
          · simp only [Act.put, List.setIfInBounds_toArray, List.set_cons_zero, List.set_cons_succ, i64_w, i32_w]
            rfl
          refine pure_ (i := 6) (N := some 48) (v := ?_) (a' := ?_) #[true, true, true, true, true, true, true, false, false, false, false, false, false] rfl rfl (by kernel_rfl) (fun _ _ _ h => h) (Or.inl ⟨by rfl, ?_⟩) ?_ ?_
          rotate_left
          · intro w'
            go_simp
            with_reducible rfl
          rotate_left
          · simp only [Act.put, List.setIfInBounds_toArray, List.set_cons_zero, List.set_cons_succ, i64_w, i32_w]
            rfl
          refine pure_ (i := 7) (N := some 49) (v := ?_) (a' := ?_) #[true, true, true, true, true, true, true, true, false, false, false, false, false] rfl rfl (by kernel_rfl) (fun _ _ _ h => h) (Or.inl ⟨by rfl, ?_⟩) ?_ ?_
          rotate_left
          · intro w'
            go_simp
            with_reducible rfl
          rotate_left
          · simp only [Act.put, List.setIfInBounds_toArray, List.set_cons_zero, List.set_cons_succ, i64_w, i32_w]
            rfl
          refine pure_ (i := 9) (N := some 51) (v := ?_) (a' := ?_) #[true, true, true, true, true, true, true, true, false, true, false, false, false] rfl rfl (by kernel_rfl) (fun _ _ _ h => h) (Or.inl ⟨by rfl, ?_⟩) ?_ ?_
          rotate_left
          · intro w'
            go_simp
            with_reducible rfl
          rotate_left
          · simp only [Act.put, List.setIfInBounds_toArray, List.set_cons_zero, List.set_cons_succ, i64_w, i32_w]
            rfl
          refine pure_ (i := 10) (N := some 52) (v := ?_) (a' := ?_) #[true, true, true, true, true, true, true, true, false, true, true, false, false] rfl rfl (by kernel_rfl) (fun _ _ _ h => h) (Or.inl ⟨by rfl, ?_⟩) ?_ ?_
          rotate_left
          · intro w'
            go_simp
            with_reducible rfl
          rotate_left
          · simp only [Act.put, List.setIfInBounds_toArray, List.set_cons_zero, List.set_cons_succ, i64_w, i32_w]
            rfl
          refine take_ (i := 8) (N := some 50) (v := ?_) (a' := ?_) #[true, true, true, true, true, true, true, true, true, true, true, false, false] rfl rfl (by kernel_rfl) (fun _ _ _ h => h) (Or.inl ⟨by rfl, ?_⟩) hHeld ?_ ?_
          rotate_left
          · rintro w' ⟨s0, s1⟩
            go_simp
            with_reducible rfl
          rotate_left
          · simp only [Act.put, List.setIfInBounds_toArray, List.set_cons_zero, List.set_cons_succ, i64_w, i32_w]
            rfl
          refine pure_ (i := 11) (N := some 53) (v := ?_) (a' := ?_) #[true, true, true, true, true, true, true, true, true, true, true, true, false] rfl rfl (by kernel_rfl) (fun _ _ _ h => h) (Or.inl ⟨by rfl, ?_⟩) ?_ ?_
          rotate_left
          · intro w'
            go_simp
            with_reducible rfl
          rotate_left
          · simp only [Act.put, List.setIfInBounds_toArray, List.set_cons_zero, List.set_cons_succ, i64_w, i32_w]
            rfl
          refine last_ (i := 12) (N := none) #[true, true, true, true, true, true, true, true, true, true, true, true, true] rfl rfl (by kernel_rfl) (by decide) (fun K hK => ?_)
          refine skip_ (w1 := ?_) (by rfl) rfl ?_ ?_
          rotate_left
          · go_simp
            rfl
          refine hK.out _ _ ?_
          clear hK K
          refine done_ (by kernel_rfl) ?_
          have F1b : Chunk ((wr.setCell ⟨w.heap.size, z * 2, none⟩ (.int .u8 pk)).setCell ⟨w.heap.size, z * 2 + 1, none⟩ (.int .u8 pl)).drew w.heap.size _ _ _ := F1.out.below (below_drew (Below.refl _ _)) F1.out.lt
          have B1b : Below w.heap.size w ((wr.setCell ⟨w.heap.size, z * 2, none⟩ (.int .u8 pk)).setCell ⟨w.heap.size, z * 2 + 1, none⟩ (.int .u8 pl)).drew := below_drew (Below.setCell (Below.setCell HF.out.below (Nat.le_refl _) _) (Nat.le_refl _) _)
          generalize ((wr.setCell ⟨w.heap.size, z * 2, none⟩ (.int .u8 pk)).setCell ⟨w.heap.size, z * 2 + 1, none⟩ (.int .u8 pl)).drew = w6 at F1b B1b ⊢
          clear c0 c1 cf0 cf1 q0 q1 q2 q3 q4 q5 p1
          obtain ⟨q0, q1, q2, q3, q4, q5⟩ := HQ.out _ B1b
          obtain ⟨c0, c1⟩ := F1b.atL z hin.2
          have cf0 := F1b.frz (8192 + z * 2)
          have cf1 := F1b.frz (8192 + z * 2 + 1)
          have F2 := Lib.hid (F1b.setL z hin.2 (pq, pr))
          have B1h := Lib.hid B1b
          clear F1b B1b
          --CUT5
          go_wp2_with fail
          refine start_ (n := 13) (S := fun w' => w'.cell? ⟨(ad.add (k * 6)).block, (ad.add (k * 6)).off + 4, none⟩ = some (.int .u8 pq) ∧ w'.cell? ⟨(ad.add (k * 6)).block, (ad.add (k * 6)).off + 4 + 1, none⟩ = some (.int .u8 pr)) (ds := [12]) #[false, false, false, false, false, false, false, false, false, false, false, false, false] (by kernel_rfl) rfl rfl ⟨q4, q5⟩ (fun hHeld => ?_)
          refine pure_ (i := 0) (N := some 54) (v := ?_) (a' := ?_) #[true, false, false, false, false, false, false, false, false, false, false, false, false] rfl rfl (by kernel_rfl) (fun _ _ _ h => h) (Or.inl ⟨by rfl, ?_⟩) ?_ ?_
          rotate_left
          · intro w'
            go_simp
            with_reducible rfl
          rotate_left
          · simp only [Act.put, List.setIfInBounds_toArray, List.set_cons_zero, List.set_cons_succ, i64_w, i32_w]
            rfl
          refine pure_ (i := 1) (N := some 55) (v := ?_) (a' := ?_) #[true, true, false, false, false, false, false, false, false, false, false, false, false] rfl rfl (by kernel_rfl) (fun _ _ _ h => h) (Or.inl ⟨by rfl, ?_⟩) ?_ ?_
          rotate_left
          · intro w'
            go_simp
            with_reducible rfl
          rotate_left
          · simp only [Act.put, List.setIfInBounds_toArray, List.set_cons_zero, List.set_cons_succ, i64_w, i32_w]
            rfl
          refine pure_ (i := 2) (N := some 56) (v := ?_) (a' := ?_) #[true, true, true, false, false, false, false, false, false, false, false, false, false] rfl rfl (by kernel_rfl) (fun _ _ _ h => h) (Or.inl ⟨by rfl, ?_⟩) ?_ ?_
          rotate_left
          · intro w'
            go_simp
            with_reducible rfl
          rotate_left
          · simp only [Act.put, List.setIfInBounds_toArray, List.set_cons_zero, List.set_cons_succ, i64_w, i32_w]
            rfl
          refine pure_ (i := 3) (N := some 57) (v := ?_) (a' := ?_) #[true, true, true, true, false, false, false, false, false, false, false, false, false] rfl rfl (by kernel_rfl) (fun _ _ _ h => h) (Or.inl ⟨by rfl, ?_⟩) ?_ ?_
          rotate_left
          · intro w'
            go_simp
            with_reducible rfl
          rotate_left
          · simp only [Act.put, List.setIfInBounds_toArray, List.set_cons_zero, List.set_cons_succ, i64_w, i32_w]
            rfl
          refine pure_ (i := 4) (N := some 58) (v := ?_) (a' := ?_) #[true, true, true, true, true, false, false, false, false, false, false, false, false] rfl rfl (by kernel_rfl) (fun _ _ _ h => h) (Or.inl ⟨by rfl, ?_⟩) ?_ ?_
          rotate_left
          · intro w'
            go_simp
            with_reducible rfl
          rotate_left
          · simp only [Act.put, List.setIfInBounds_toArray, List.set_cons_zero, List.set_cons_succ, i64_w, i32_w]
            rfl
          refine pure_ (i := 5) (N := some 59) (v := ?_) (a' := ?_) #[true, true, true, true, true, true, false, false, false, false, false, false, false] rfl rfl (by kernel_rfl) (fun _ _ _ h => h) (Or.inl ⟨by rfl, ?_⟩) ?_ ?_
          rotate_left
          · intro w'
            go_simp
            with_reducible rfl
          rotate_left
          · simp only [Act.put, List.setIfInBounds_toArray, List.set_cons_zero, List.set_cons_succ, i64_w, i32_w]
            rfl
          refine pure_ (i := 6) (N := some 60) (v := ?_) (a' := ?_) #[true, true, true, true, true, true, true, false, false, false, false, false, false] rfl rfl (by kernel_rfl) (fun _ _ _ h => h) (Or.inl ⟨by rfl, ?_⟩) ?_ ?_
          rotate_left
          · intro w'
            go_simp
            with_reducible rfl
          rotate_left
          · simp only [Act.put, List.setIfInBounds_toArray, List.set_cons_zero, List.set_cons_succ, i64_w, i32_w]
            rfl
          refine pure_ (i := 7) (N := some 61) (v := ?_) (a' := ?_) #[true, true, true, true, true, true, true, true, false, false, false, false, false] rfl rfl (by kernel_rfl) (fun _ _ _ h => h) (Or.inl ⟨by rfl, ?_⟩) ?_ ?_
          rotate_left
          · intro w'
            go_simp
            with_reducible rfl
          rotate_left
          · simp only [Act.put, List.setIfInBounds_toArray, List.set_cons_zero, List.set_cons_succ, i64_w, i32_w]
            rfl
          refine pure_ (i := 9) (N := some 63) (v := ?_) (a' := ?_) #[true, true, true, true, true, true, true, true, false, true, false, false, false] rfl rfl (by kernel_rfl) (fun _ _ _ h => h) (Or.inl ⟨by rfl, ?_⟩) ?_ ?_
          rotate_left
          · intro w'
            go_simp
            with_reducible rfl
          rotate_left
          · simp only [Act.put, List.setIfInBounds_toArray, List.set_cons_zero, List.set_cons_succ, i64_w, i32_w]
            rfl
          refine pure_ (i := 10) (N := some 64) (v := ?_) (a' := ?_) #[true, true, true, true, true, true, true, true, false, true, true, false, false] rfl rfl (by kernel_rfl) (fun _ _ _ h => h) (Or.inl ⟨by rfl, ?_⟩) ?_ ?_
          rotate_left
          · intro w'
            go_simp
            with_reducible rfl
          rotate_left
          · simp only [Act.put, List.setIfInBounds_toArray, List.set_cons_zero, List.set_cons_succ, i64_w, i32_w]
            rfl
          refine take_ (i := 8) (N := some 62) (v := ?_) (a' := ?_) #[true, true, true, true, true, true, true, true, true, true, true, false, false] rfl rfl (by kernel_rfl) (fun _ _ _ h => h) (Or.inl ⟨by rfl, ?_⟩) hHeld ?_ ?_
          rotate_left
          · rintro w' ⟨s0, s1⟩
            go_simp
            with_reducible rfl
          rotate_left
          · simp only [Act.put, List.setIfInBounds_toArray, List.set_cons_zero, List.set_cons_succ, i64_w, i32_w]
            rfl
          refine pure_ (i := 11) (N := some 65) (v := ?_) (a' := ?_) #[true, true, true, true, true, true, true, true, true, true, true, true, false] rfl rfl (by kernel_rfl) (fun _ _ _ h => h) (Or.inl ⟨by rfl, ?_⟩) ?_ ?_
          rotate_left
          · intro w'
            go_simp
            with_reducible rfl
          rotate_left
          · simp only [Act.put, List.setIfInBounds_toArray, List.set_cons_zero, List.set_cons_succ, i64_w, i32_w]
            rfl
          refine last_ (i := 12) (N := none) #[true, true, true, true, true, true, true, true, true, true, true, true, true] rfl rfl (by kernel_rfl) (by decide) (fun K hK => ?_)
          refine skip_ (w1 := ?_) (by rfl) rfl ?_ ?_
          rotate_left
          · go_simp
            rfl
          refine hK.out _ _ ?_
          clear hK K
          refine done_ (by kernel_rfl) ?_
          have F2b : Chunk ((w6.setCell ⟨w.heap.size, 8192 + z * 2, none⟩ (.int .u8 pq)).setCell ⟨w.heap.size, 8192 + z * 2 + 1, none⟩ (.int .u8 pr)).drew w.heap.size _ _ _ := F2.out.below (below_drew (Below.refl _ _)) F2.out.lt
          have B2b : Below w.heap.size w ((w6.setCell ⟨w.heap.size, 8192 + z * 2, none⟩ (.int .u8 pq)).setCell ⟨w.heap.size, 8192 + z * 2 + 1, none⟩ (.int .u8 pr)).drew := below_drew (Below.setCell (Below.setCell B1h.out (Nat.le_refl _) _) (Nat.le_refl _) _)
          generalize ((w6.setCell ⟨w.heap.size, 8192 + z * 2, none⟩ (.int .u8 pq)).setCell ⟨w.heap.size, 8192 + z * 2 + 1, none⟩ (.int .u8 pr)).drew = w7 at F2b B2b ⊢
          clear c0 c1 cf0 cf1 q0 q1 q2 q3 q4 q5
          have HG := Lib.hid (⟨B2b, by rw [fillN, fillN, ← HZ.out]; exact F2b⟩ : Fi w w7 w.heap.size C L at_ (i + 1) (pk, pl) (pq, pr))
          clear F2b B2b
          go_wp2
          go_roundw
          case rel => exact ⟨i + 1, HI1.out, by go_num, ⟨HG.out⟩⟩
          case measure => simp [intOf]; omega
        · --CUT2
          have him : i = many (pa, pm, (pk, pl), (pq, pr)) := many_end z at_ i _ pm hmany hz hi hin
          have HB2 := Lib.hid hf.below
          have HC2 := Lib.hid (show Chunk wr w.heap.size (madeP (ps.take (k + 1))).1 (madeP (ps.take (k + 1))).2 (.slice none 0 0) by
            rw [HST.out.trans (step_at C L pa pm (pk, pl) (pq, pr) at_ i HAT.out him)]
            exact hf.ch)
          clear hf him hmany hi
          have hk2 : k + 1 ≤ ps.length ∧ k + 1 ≤ 1000 := ⟨hlt.1, hlt.2⟩
          by_cases h1 : (i : Int) < pm
          · --CUT3
            have he1 := decide_eq_true h1
            have he2 := decide_eq_false (show ¬ (z : Int) < 4096 by omega)
            have he3 := decide_eq_false (show ¬ (at_ : Int) + (i : Int) < 4096 by omega)
            clear hz hin
            go_wp2
            go_roundw
            case rel => exact ⟨k + 1, hk2.1, hk2.2, by go_num, ⟨HB2.out⟩, ⟨HC2.out⟩⟩
            case measure => simp [intOf]; omega
          · --CUT4
            have he1 := decide_eq_false h1
            clear hz hin
            go_wp2
            go_roundw
            case rel => exact ⟨k + 1, hk2.1, hk2.2, by go_num, ⟨HB2.out⟩, ⟨HC2.out⟩⟩
            case measure => simp [intOf]; omega
    · have hkt : ps.take k = ps.take 1000 := by
        by_cases h : k < ps.length
        · rw [show k = 1000 by omega]
        · rw [List.take_of_length_le (by omega), List.take_of_length_le (by omega)]
      rw [hkt] at hch
      have HCE := Lib.hid hch
      have HTE := Kd.C_below HT.out hb
      have READ := Lib.hid (fun W (hb : Below wr.heap.size wr W) => (ReadsRow.imp_ HTE hb (fun x cs h => kT_open h) : ReadsRow (fun x cs => cs = [.int .i64 x.1, .int .i64 x.2]) 2 W tA T.length T))
      have HBE := HB
      clear HC hb hch hw5 hand hkt HTE
      have ct := HCE.out.atT
      by_cases h1 : k < ps.length
      · have hd1 := decide_eq_true (show (k : Int) < (ps.length : Int) by omega)
        have hd2 := decide_eq_false (show ¬ (k : Int) < 1000 by omega)
        clear hlt
        go_wp2_with (at_builtin; refine Kd.R_append_rows kT (Rr := fun x cs => cs = [.int .i64 x.1, .int .i64 x.2]) w.heap.size rfl (.tmp 70) (.tmp 71) 23 48 (.agg #[.int .i64 0, .int .i64 0]) 16 rfl Try.underlying23 infoTick (by rfl) (by decide) (by decide) (.slice none 0 0) [] T tA T.length tc (fun k => k ≠ w.heap.size) (fun _ => False) rfl rfl (Kd.R_nil _ _ _ _ _) (READ.out _ (Below.refl _ _)) (fun x cs h => ⟨[_], [_], h, rfl, rfl⟩) (fun _ h => h.elim) (fun q hq => by have := HCE.out.lt; omega) HBE.out (by exact HBE.out.size) (by simp only [List.length_nil]; omega) ?_; intro v9 w9 hr9 hb9 hg9 hat9; have HC9 := Lib.hid (HCE.out.grown hg9 (by simp [Value.ownBlock])); obtain ⟨A9, c9, rfl, hc9, hd9⟩ := Kd.R_reads hr9; have HR9 := Lib.hid hr9; have HB9 := Lib.hid hb9; clear hr9 hd9 hb9 hg9 hat9; simp only [List.nil_append] at hc9 ⊢; have t9 := HC9.out.atT; have cf9 := HC9.out.frz 16384)
        go_ret
        refine ⟨.slice A9 T.length c9, rfl, ?_, ?_, ?_⟩
        · exact (HC9.out.setT _)
        · exact ⟨A9, c9, rfl, hc9, (Kd.R_reads' (Kd.R_far HR9.out (p := ⟨w.heap.size, 16384, none⟩) (fun k hk => hk) (.slice A9 T.length c9))).2.2⟩
        · exact Below.setCell HB9.out (Nat.le_refl _) _
      · have hd1 := decide_eq_false (show ¬ (k : Int) < (ps.length : Int) by omega)
        clear hlt
        go_wp2_with (at_builtin; refine Kd.R_append_rows kT (Rr := fun x cs => cs = [.int .i64 x.1, .int .i64 x.2]) w.heap.size rfl (.tmp 70) (.tmp 71) 23 48 (.agg #[.int .i64 0, .int .i64 0]) 16 rfl Try.underlying23 infoTick (by rfl) (by decide) (by decide) (.slice none 0 0) [] T tA T.length tc (fun k => k ≠ w.heap.size) (fun _ => False) rfl rfl (Kd.R_nil _ _ _ _ _) (READ.out _ (Below.refl _ _)) (fun x cs h => ⟨[_], [_], h, rfl, rfl⟩) (fun _ h => h.elim) (fun q hq => by have := HCE.out.lt; omega) HBE.out (by exact HBE.out.size) (by simp only [List.length_nil]; omega) ?_; intro v9 w9 hr9 hb9 hg9 hat9; have HC9 := Lib.hid (HCE.out.grown hg9 (by simp [Value.ownBlock])); obtain ⟨A9, c9, rfl, hc9, hd9⟩ := Kd.R_reads hr9; have HR9 := Lib.hid hr9; have HB9 := Lib.hid hb9; clear hr9 hd9 hb9 hg9 hat9; simp only [List.nil_append] at hc9 ⊢; have t9 := HC9.out.atT; have cf9 := HC9.out.frz 16384)
        go_ret
        refine ⟨.slice A9 T.length c9, rfl, ?_, ?_, ?_⟩
        · exact (HC9.out.setT _)
        · exact ⟨A9, c9, rfl, hc9, (Kd.R_reads' (Kd.R_far HR9.out (p := ⟨w.heap.size, 16384, none⟩) (fun k hk => hk) (.slice A9 T.length c9))).2.2⟩
        · exact Below.setCell HB9.out (Nat.le_refl _) _
end Go.Proofs.Ytkecppgodmbmlaa.PK

namespace Go.Proofs.Ytkecppgodmbmlaa.PK
open Go.ChangeShapes Go.WideShapes Go.Deep Go.RowKit Go.Proofs.YtkecppgodmbmlaaW.PrintWords Go.Proofs.YtkecppgodmbmlaaW.PrintLast Go.Proofs.YtkecppgodmbmlaaW.PrintMore
set_option linter.unusedVariables false
set_option linter.unusedSimpArgs false
section
variable {H : Type} {enc : TypeId × Value → H} {w : World} {base : Nat} {spare : Nat → Bool} {held : Bool}
theorem cellsPart : Try.prog.cellsOf 38 = 6 := by kernel_rfl
theorem bytesPart : Try.prog.bytesOf 38 = 24 := by kernel_rfl
theorem cells_int : Try.prog.cellsOf 3 = 1 := by kernel_rfl
theorem cells_u8 : Try.prog.cellsOf 5 = 1 := by kernel_rfl
theorem cells_cell : Try.prog.cellsOf 34 = 2 := by kernel_rfl
theorem cells_light : Try.prog.cellsOf 36 = 2 := by kernel_rfl
theorem u8_of {c : Value} {x : DataW H × List MemPlace} {n : Nat} (h : DataW.trod enc Try.prog w base spare held n 5 [c] = some x) : ∃ a : Int, c = .int .u8 a ∧ 0 ≤ a ∧ a < 256 := by
  obtain ⟨a, hx, _, hw⟩ := DataW.trod_int Try.underlying5 h
  obtain rfl : c = .int .u8 a := by simpa using hx
  refine ⟨a, rfl, ?_⟩
  simp [Lit.wf, IntKind.min, IntKind.max, IntKind.signed, IntKind.bits] at hw
  omega
theorem i64_of {c : Value} {x : DataW H × List MemPlace} {n : Nat} (h : DataW.trod enc Try.prog w base spare held n 3 [c] = some x) : ∃ a : Int, c = .int .i64 a ∧ -9223372036854775808 ≤ a ∧ a ≤ 9223372036854775807 := by
  obtain ⟨a, hx, _, hw⟩ := DataW.trod_int Try.underlying3 h
  obtain rfl : c = .int .i64 a := by simpa using hx
  refine ⟨a, rfl, ?_⟩
  simp [Lit.wf, IntKind.min, IntKind.max, IntKind.signed, IntKind.bits] at hw
  omega
theorem pair_of {t : TypeId} {f0 f1 : Field} {c0 c1 : Value} {x : DataW H × List MemPlace} {n : Nat} (ht : Try.prog.underlying t = some (.struct #[f0, f1])) (e0 : f0.type = 5 ∧ f0.offset = 0) (e1 : f1.type = 5 ∧ f1.offset = 1)
    (h : DataW.trod enc Try.prog w base spare held n t [c0, c1] = some x) : ∃ p : Pr, c0 = .int .u8 p.1 ∧ c1 = .int .u8 p.2 ∧ U8 [p] := by
  obtain ⟨y0, y1, m, _, _, h0, h1⟩ := Go.ChangeShapes.trod_struct2 ht h
  rw [e0.1, e0.2, cells_u8] at h0
  rw [e1.1, e1.2, cells_u8] at h1
  obtain ⟨a, rfl, ha⟩ := u8_of h0
  obtain ⟨b, rfl, hb⟩ := u8_of h1
  exact ⟨(a, b), rfl, rfl, fun q hq => by obtain rfl := List.mem_singleton.1 hq; exact ⟨ha, hb⟩⟩
set_option maxRecDepth 100000 in
theorem part_of {cs : List Value} {x : DataW H × List MemPlace} {n : Nat} (h : DataW.trod enc Try.prog w base spare held n 38 cs = some x) :
    ∃ p : Pt, cs = [.int .i64 p.1, .int .i64 p.2.1, .int .u8 p.2.2.1.1, .int .u8 p.2.2.1.2, .int .u8 p.2.2.2.1, .int .u8 p.2.2.2.2] ∧ (-9223372036854775808 ≤ p.1 ∧ p.1 ≤ 9223372036854775807) ∧ (-9223372036854775808 ≤ p.2.1 ∧ p.2.1 ≤ 9223372036854775807) ∧ U8 [p.2.2.1] ∧ U8 [p.2.2.2] := by
  obtain ⟨xs, m, _, _, hl, hlen, hf⟩ := DataW.trod_struct Try.underlying38 h
  rw [cellsPart] at hl
  match cs, hl with
  | [c0, c1, c2, c3, c4, c5], _ =>
  match xs, hlen with
  | [y0, y1, y2, y3], _ =>
    have h0 := hf 0 _ rfl
    have h1 := hf 1 _ rfl
    have h2 := hf 2 _ rfl
    have h3 := hf 3 _ rfl
    simp only [cells_int, cells_cell, cells_light, List.drop_zero, List.drop_succ_cons, List.take_succ_cons, List.take_zero, List.getElem?_cons_zero, List.getElem?_cons_succ] at h0 h1 h2 h3
    obtain ⟨a, rfl, ha⟩ := i64_of h0
    obtain ⟨b, rfl, hb⟩ := i64_of h1
    obtain ⟨c, rfl, rfl, hc⟩ := pair_of Try.underlying34 ⟨rfl, rfl⟩ ⟨rfl, rfl⟩ h2
    obtain ⟨d, rfl, rfl, hd⟩ := pair_of Try.underlying36 ⟨rfl, rfl⟩ ⟨rfl, rfl⟩ h3
    exact ⟨(a, b, c, d), rfl, ha, hb, hc, hd⟩
end
section
variable {H : Type} {enc : TypeId × Value → H} {w : World} {base : Nat} {held : Bool}
set_option maxRecDepth 100000 in
/-- A slice of parts that is read. -/
theorem open_partsF {v : Value} {x : DataW H × List MemPlace} {fuel : Nat} (hf : DataW.trod enc Try.prog w base (fun _ => true) held fuel 41 [v] = some x) :
    ∃ A c ps, v = .slice A ps.length c ∧ ps.length ≤ c ∧ c ≤ maxLen ∧ Pts w A ps ∧ PU8 ps ∧ (c = 0 ∨ ∃ E S, x.1 = .slice E S ∧ E.length + S.length = c) := by
  rcases open_slice Try.underlying41 hf with ⟨hcs, _⟩ | ⟨a, len, cap, m, n, D, Pl, hcs, _, hl, hm, hmm, hx, hi⟩
  · obtain rfl : v = .slice none 0 0 := by simpa using hcs
    exact ⟨none, 0, [], rfl, Nat.le_refl _, by decide, fun j hj => absurd hj (by simp), (fun q hq => by cases hq), .inl rfl⟩
  · obtain rfl : v = .slice (some a) len cap := by simpa using hcs
    have hel : ∀ i, i < len → ∃ q : Pt, (∀ j u, [Value.int .i64 q.1, .int .i64 q.2.1, .int .u8 q.2.2.1.1, .int .u8 q.2.2.1.2, .int .u8 q.2.2.2.1, .int .u8 q.2.2.2.2][j]? = some u → w.cell? (a.add (i * 6 + j)) = some u) ∧ U8 [q.2.2.1] ∧ U8 [q.2.2.2] := by
      intro i hil
      obtain ⟨cs, hc, ht'⟩ := hi i (by rw [hmm]; simp; omega)
      obtain ⟨q, rfl, _, _, hu⟩ := part_of ht'
      obtain ⟨_, hl6, hat⟩ := World.cells?_some hc
      refine ⟨q, fun j u hj => ?_, hu⟩
      have hj6 : j < 6 := by have := (List.getElem?_eq_some_iff.1 hj).1; simpa using this
      have := hat j (by rw [cellsPart]; exact hj6)
      rw [hj, Go.Deep.add_add, cellsPart] at this
      exact this
    let f : Nat → Pt := fun i => if h : i < len then Classical.choose (hel i h) else Q0
    have hf : ∀ i (h : i < len), f i = Classical.choose (hel i h) := fun i h => dif_pos h
    have hlen : ((List.range len).map f).length = len := by rw [List.length_map, List.length_range]
    have hget : ∀ i, i < len → ((List.range len).map f).getD i Q0 = f i := fun i h => by
      rw [List.getD_eq_getElem?_getD, List.getElem?_map, List.getElem?_range h]; rfl
    refine ⟨some a, cap, (List.range len).map f, by rw [hlen], by rw [hlen]; exact hl, hm, fun i hi' => ?_, fun q hq => ?_, .inr ?_⟩
    · rw [hlen] at hi'
      have hs := (Classical.choose_spec (hel i hi')).1
      rw [← hf i hi'] at hs
      rw [hget i hi']
      have h0 := hs 0 _ rfl
      have h1 := hs 1 _ rfl
      have h2 := hs 2 _ rfl
      have h3 := hs 3 _ rfl
      have h4 := hs 4 _ rfl
      have h5 := hs 5 _ rfl
      rw [at_field _ _ _ (by decide)] at h1 h2 h3 h4 h5
      exact ⟨a, rfl, h0, h1, h2, h3, h4, h5⟩
    · obtain ⟨i, hi', rfl⟩ := List.mem_map.1 hq
      have hi' := List.mem_range.1 hi'
      have hs := (Classical.choose_spec (hel i hi')).2
      rw [← hf i hi'] at hs
      exact hs
    · refine ⟨_, _, by rw [hx], ?_⟩
      rw [List.length_map, List.length_map, List.length_range, List.length_range, hmm]
      simp only [if_true]
      omega
set_option maxRecDepth 100000 in
set_option maxRecDepth 100000 in
theorem open_parts {v : Value} {d : DataW H} {p : List MemPlace} {r : Reach} {b0 : Nat} (hv : Value.okWide Try.prog w r b0 41 v) (h : DataW.Trod enc Try.prog w base (fun _ => true) held 41 v d p) :
    ∃ A c ps, v = .slice A ps.length c ∧ ps.length ≤ c ∧ c ≤ maxLen ∧ Pts w A ps ∧ PU8 ps ∧ (c = 0 ∨ ∃ E S, d = .slice E S ∧ E.length + S.length = c) := by
  obtain ⟨A, len, cap, rfl⟩ := okWide_slice Try.underlying41 hv
  obtain ⟨fuel, hf⟩ := h
  exact open_partsF (x := (d, p)) hf
theorem parts_small {ts : List TypeId} {ds : List (DataW H)} {d : DataW H} {c j : Nat} (hsz : (DataW.weightsEach Try.prog ts ds).all (· ≤ reachBytes) = true) (ht : ts[j]? = some 41) (hd : ds[j]? = some d) (h : c = 0 ∨ ∃ E S, d = .slice E S ∧ E.length + S.length = c) : c ≤ 140737488355328 := by
  rcases h with rfl | ⟨E, S, rfl, rfl⟩
  · omega
  · have := sized_slice hsz ht hd Try.underlying41
    rw [bytesPart, show reachBytes = 140737488351232 from rfl] at this
    omega
set_option maxRecDepth 100000 in
/-- A part by value. -/
theorem open_part {v : Value} {d : DataW H} {p : List MemPlace} {r : Reach} {b0 : Nat} (hv : Value.okWide Try.prog w r b0 38 v) (h : DataW.Trod enc Try.prog w base (fun _ => true) held 38 v d p) :
    ∃ q : Pt, v = .agg #[.int .i64 q.1, .int .i64 q.2.1, .int .u8 q.2.2.1.1, .int .u8 q.2.2.1.2, .int .u8 q.2.2.2.1, .int .u8 q.2.2.2.2] ∧ U8 [q.2.2.1] ∧ U8 [q.2.2.2] := by
  obtain ⟨cs, rfl, _⟩ := okWide_struct Try.underlying38 hv
  obtain ⟨fuel, hf⟩ := h
  obtain ⟨q, hq, _, _, h1, h2⟩ := part_of hf
  refine ⟨q, ?_, h1, h2⟩
  simp only [Value.cells] at hq
  congr 1
  exact Array.ext' (by simpa using hq)
end
end Go.Proofs.Ytkecppgodmbmlaa.PK

namespace Go.Proofs.Ytkecppgodmbmlaa.PK
open Go.ChangeShapes Go.WideShapes Go.Deep Go.RowKit Go.Proofs.YtkecppgodmbmlaaW.PrintWords Go.Proofs.YtkecppgodmbmlaaW.PrintLast Go.Proofs.YtkecppgodmbmlaaW.PrintMore
set_option linter.unusedVariables false
set_option linter.unusedSimpArgs false
section
variable {H : Type} {enc : TypeId × Value → H} {w : World} {base : Nat} {spare : Nat → Bool} {held : Bool}
theorem cellsPart2 : Try.prog.cellsOf 58 = 6 := by kernel_rfl
theorem bytesPart2 : Try.prog.bytesOf 58 = 24 := by kernel_rfl
set_option maxRecDepth 100000 in
theorem part_of2 {cs : List Value} {x : DataW H × List MemPlace} {n : Nat} (h : DataW.trod enc Try.prog w base spare held n 58 cs = some x) :
    ∃ p : Pt, cs = [.int .i64 p.1, .int .i64 p.2.1, .int .u8 p.2.2.1.1, .int .u8 p.2.2.1.2, .int .u8 p.2.2.2.1, .int .u8 p.2.2.2.2] ∧ (-9223372036854775808 ≤ p.1 ∧ p.1 ≤ 9223372036854775807) ∧ (-9223372036854775808 ≤ p.2.1 ∧ p.2.1 ≤ 9223372036854775807) ∧ U8 [p.2.2.1] ∧ U8 [p.2.2.2] := by
  obtain ⟨xs, m, _, _, hl, hlen, hf⟩ := DataW.trod_struct Try.underlying58 h
  rw [cellsPart2] at hl
  match cs, hl with
  | [c0, c1, c2, c3, c4, c5], _ =>
  match xs, hlen with
  | [y0, y1, y2, y3], _ =>
    have h0 := hf 0 _ rfl
    have h1 := hf 1 _ rfl
    have h2 := hf 2 _ rfl
    have h3 := hf 3 _ rfl
    simp only [cells_int, cells_cell, cells_light, List.drop_zero, List.drop_succ_cons, List.take_succ_cons, List.take_zero, List.getElem?_cons_zero, List.getElem?_cons_succ] at h0 h1 h2 h3
    obtain ⟨a, rfl, ha⟩ := i64_of h0
    obtain ⟨b, rfl, hb⟩ := i64_of h1
    obtain ⟨c, rfl, rfl, hc⟩ := pair_of Try.underlying34 ⟨rfl, rfl⟩ ⟨rfl, rfl⟩ h2
    obtain ⟨d, rfl, rfl, hd⟩ := pair_of Try.underlying36 ⟨rfl, rfl⟩ ⟨rfl, rfl⟩ h3
    exact ⟨(a, b, c, d), rfl, ha, hb, hc, hd⟩
end
section
variable {H : Type} {enc : TypeId × Value → H} {w : World} {base : Nat} {held : Bool}
set_option maxRecDepth 100000 in
/-- A slice of parts that is read. -/
theorem open_partsF2 {v : Value} {x : DataW H × List MemPlace} {fuel : Nat} (hf : DataW.trod enc Try.prog w base (fun _ => true) held fuel 22 [v] = some x) :
    ∃ A c ps, v = .slice A ps.length c ∧ ps.length ≤ c ∧ c ≤ maxLen ∧ Pts w A ps ∧ PU8 ps ∧ (c = 0 ∨ ∃ E S, x.1 = .slice E S ∧ E.length + S.length = c) := by
  rcases open_slice Try.underlying22 hf with ⟨hcs, _⟩ | ⟨a, len, cap, m, n, D, Pl, hcs, _, hl, hm, hmm, hx, hi⟩
  · obtain rfl : v = .slice none 0 0 := by simpa using hcs
    exact ⟨none, 0, [], rfl, Nat.le_refl _, by decide, fun j hj => absurd hj (by simp), (fun q hq => by cases hq), .inl rfl⟩
  · obtain rfl : v = .slice (some a) len cap := by simpa using hcs
    have hel : ∀ i, i < len → ∃ q : Pt, (∀ j u, [Value.int .i64 q.1, .int .i64 q.2.1, .int .u8 q.2.2.1.1, .int .u8 q.2.2.1.2, .int .u8 q.2.2.2.1, .int .u8 q.2.2.2.2][j]? = some u → w.cell? (a.add (i * 6 + j)) = some u) ∧ U8 [q.2.2.1] ∧ U8 [q.2.2.2] := by
      intro i hil
      obtain ⟨cs, hc, ht'⟩ := hi i (by rw [hmm]; simp; omega)
      obtain ⟨q, rfl, _, _, hu⟩ := part_of2 ht'
      obtain ⟨_, hl6, hat⟩ := World.cells?_some hc
      refine ⟨q, fun j u hj => ?_, hu⟩
      have hj6 : j < 6 := by have := (List.getElem?_eq_some_iff.1 hj).1; simpa using this
      have := hat j (by rw [cellsPart2]; exact hj6)
      rw [hj, Go.Deep.add_add, cellsPart2] at this
      exact this
    let f : Nat → Pt := fun i => if h : i < len then Classical.choose (hel i h) else Q0
    have hf : ∀ i (h : i < len), f i = Classical.choose (hel i h) := fun i h => dif_pos h
    have hlen : ((List.range len).map f).length = len := by rw [List.length_map, List.length_range]
    have hget : ∀ i, i < len → ((List.range len).map f).getD i Q0 = f i := fun i h => by
      rw [List.getD_eq_getElem?_getD, List.getElem?_map, List.getElem?_range h]; rfl
    refine ⟨some a, cap, (List.range len).map f, by rw [hlen], by rw [hlen]; exact hl, hm, fun i hi' => ?_, fun q hq => ?_, .inr ?_⟩
    · rw [hlen] at hi'
      have hs := (Classical.choose_spec (hel i hi')).1
      rw [← hf i hi'] at hs
      rw [hget i hi']
      have h0 := hs 0 _ rfl
      have h1 := hs 1 _ rfl
      have h2 := hs 2 _ rfl
      have h3 := hs 3 _ rfl
      have h4 := hs 4 _ rfl
      have h5 := hs 5 _ rfl
      rw [at_field _ _ _ (by decide)] at h1 h2 h3 h4 h5
      exact ⟨a, rfl, h0, h1, h2, h3, h4, h5⟩
    · obtain ⟨i, hi', rfl⟩ := List.mem_map.1 hq
      have hi' := List.mem_range.1 hi'
      have hs := (Classical.choose_spec (hel i hi')).2
      rw [← hf i hi'] at hs
      exact hs
    · refine ⟨_, _, by rw [hx], ?_⟩
      rw [List.length_map, List.length_map, List.length_range, List.length_range, hmm]
      simp only [if_true]
      omega
set_option maxRecDepth 100000 in
set_option maxRecDepth 100000 in
theorem open_parts2 {v : Value} {d : DataW H} {p : List MemPlace} {r : Reach} {b0 : Nat} (hv : Value.okWide Try.prog w r b0 22 v) (h : DataW.Trod enc Try.prog w base (fun _ => true) held 22 v d p) :
    ∃ A c ps, v = .slice A ps.length c ∧ ps.length ≤ c ∧ c ≤ maxLen ∧ Pts w A ps ∧ PU8 ps ∧ (c = 0 ∨ ∃ E S, d = .slice E S ∧ E.length + S.length = c) := by
  obtain ⟨A, len, cap, rfl⟩ := okWide_slice Try.underlying22 hv
  obtain ⟨fuel, hf⟩ := h
  exact open_partsF2 (x := (d, p)) hf
theorem parts_small2 {ts : List TypeId} {ds : List (DataW H)} {d : DataW H} {c j : Nat} (hsz : (DataW.weightsEach Try.prog ts ds).all (· ≤ reachBytes) = true) (ht : ts[j]? = some 22) (hd : ds[j]? = some d) (h : c = 0 ∨ ∃ E S, d = .slice E S ∧ E.length + S.length = c) : c ≤ 140737488355328 := by
  rcases h with rfl | ⟨E, S, rfl, rfl⟩
  · omega
  · have := sized_slice hsz ht hd Try.underlying22
    rw [bytesPart2, show reachBytes = 140737488351232 from rfl] at this
    omega
set_option maxRecDepth 100000 in
/-- A part by value. -/
theorem open_part2 {v : Value} {d : DataW H} {p : List MemPlace} {r : Reach} {b0 : Nat} (hv : Value.okWide Try.prog w r b0 58 v) (h : DataW.Trod enc Try.prog w base (fun _ => true) held 58 v d p) :
    ∃ q : Pt, v = .agg #[.int .i64 q.1, .int .i64 q.2.1, .int .u8 q.2.2.1.1, .int .u8 q.2.2.1.2, .int .u8 q.2.2.2.1, .int .u8 q.2.2.2.2] ∧ U8 [q.2.2.1] ∧ U8 [q.2.2.2] := by
  obtain ⟨cs, rfl, _⟩ := okWide_struct Try.underlying58 hv
  obtain ⟨fuel, hf⟩ := h
  obtain ⟨q, hq, _, _, h1, h2⟩ := part_of2 hf
  refine ⟨q, ?_, h1, h2⟩
  simp only [Value.cells] at hq
  congr 1
  exact Array.ext' (by simpa using hq)
end
end Go.Proofs.Ytkecppgodmbmlaa.PK

namespace Go.Proofs.Ytkecppgodmbmlaa.BR
open Go.ChangeShapes Go.WideShapes Go.Deep Go.RowKit Go.Proofs.YtkecppgodmbmlaaW.PrintWords Go.Proofs.YtkecppgodmbmlaaW.PrintLast Go.Proofs.YtkecppgodmbmlaaW.PrintMore
set_option linter.unusedVariables false
set_option linter.unusedSimpArgs false
section
variable {H : Type} {enc : TypeId × Value → H} {P : Program} {w : World} {base : Nat} {spare : Nat → Bool} {held : Bool}
theorem elem_cells {e : TypeId} {fs : Array Field} {a : Addr} {cs : List Value} {x : DataW H × List MemPlace} {n : Nat} (he : P.underlying e = some (.struct fs)) (hone : oneCellFields P fs = true) (hC : P.cellsOf e = fs.size)
    (hc : w.cells? base a (P.cellsOf e) = some cs) (ht : DataW.trod enc P w base spare held n e cs = some x) (j : Nat) (f : Field) (hj : fs[j]? = some f) :
    ∃ (v : Value) (y : DataW H × List MemPlace) (m : Nat), w.cell? (a.add j) = some v ∧ DataW.trod enc P w base spare held m f.type [v] = some y := by
  obtain ⟨_, hl, hat⟩ := World.cells?_some hc
  obtain ⟨ys, m, _, _, hlen, hyl, hf⟩ := DataW.trod_struct he ht
  have hjl : j < fs.size := (Array.getElem?_eq_some_iff.1 hj).1
  have hjc : j < cs.length := by omega
  have hjy : j < ys.length := by omega
  obtain ⟨ho, hk⟩ := hone_of hone j f hj
  have h1 := hf j f hj
  rw [ho, hk] at h1
  have e1 : (cs.drop j).take 1 = [cs[j]] := by rw [List.drop_eq_getElem_cons hjc]; rfl
  exact ⟨cs[j], ys[j], m, (hat j (by omega)).trans (List.getElem?_eq_getElem hjc), by rw [← e1, h1]; exact List.getElem?_eq_getElem hjy⟩
/-- Each element's cells, field by field. -/
theorem row_cellsF {t e : TypeId} {fs : Array Field} {v : Value} {x : DataW H × List MemPlace} {fuel : Nat} (ht : P.underlying t = some (.slice e)) (he : P.underlying e = some (.struct fs))
    (hone : oneCellFields P fs = true) (hC : P.cellsOf e = fs.size) (hf : DataW.trod enc P w base (fun _ => true) held fuel t [v] = some x) :
    (v = .slice none 0 0) ∨ ∃ (a : Addr) (len cap : Nat), v = .slice (some a) len cap ∧ len ≤ cap ∧ cap ≤ maxLen ∧
      ∀ i, i < len → ∀ (j : Nat) (f : Field), fs[j]? = some f → ∃ (u : Value) (y : DataW H × List MemPlace) (m : Nat), w.cell? (a.add (i * fs.size + j)) = some u ∧ DataW.trod enc P w base (fun _ => true) held m f.type [u] = some y := by
  rcases open_slice ht hf with ⟨hcs, _⟩ | ⟨a, len, cap, m, n, D, Pl, hcs, _, hl, hm, hmm, hx, hi⟩
  · left; simpa using hcs
  · right
    obtain rfl : v = .slice (some a) len cap := by simpa using hcs
    refine ⟨a, len, cap, rfl, hl, hm, fun i hil j f hj => ?_⟩
    obtain ⟨cs, hc, ht'⟩ := hi i (by rw [hmm]; simp; omega)
    obtain ⟨u, y, m', h1, h2⟩ := elem_cells he hone hC hc ht' j f hj
    refine ⟨u, y, m', ?_, h2⟩
    rw [← h1, Go.Deep.add_add, hC]
theorem row_cells {t e : TypeId} {fs : Array Field} {v : Value} {d : DataW H} {p : List MemPlace} {r : Reach} {b0 : Nat} (ht : P.underlying t = some (.slice e)) (he : P.underlying e = some (.struct fs))
    (hone : oneCellFields P fs = true) (hC : P.cellsOf e = fs.size) (hv : Value.okWide P w r b0 t v) (h : DataW.Trod enc P w base (fun _ => true) held t v d p) :
    (v = .slice none 0 0) ∨ ∃ (a : Addr) (len cap : Nat), v = .slice (some a) len cap ∧ len ≤ cap ∧ cap ≤ maxLen ∧
      ∀ i, i < len → ∀ (j : Nat) (f : Field), fs[j]? = some f → ∃ (u : Value) (y : DataW H × List MemPlace) (m : Nat), w.cell? (a.add (i * fs.size + j)) = some u ∧ DataW.trod enc P w base (fun _ => true) held m f.type [u] = some y := by
  obtain ⟨A, len, cap, rfl⟩ := okWide_slice ht hv
  obtain ⟨fuel, hf⟩ := h
  exact row_cellsF ht he hone hC (x := (d, p)) hf
end
theorem at_field (a : Addr) (i k : Nat) (hk : 0 < k) : a.add (i + k) = ⟨(a.add i).block, (a.add i).off + k, none⟩ := by
  unfold Addr.add
  rw [if_neg (by omega)]
  split
  · subst_vars; simp
  · simp [Nat.add_assoc]
/-- A slice of pairs of whole numbers that is read. -/
def Pairs (w : World) (A : Option Addr) (n : Nat) (xs : List (Int × Int)) : Prop :=
  xs.length = n ∧ (0 < n → ∃ ad, A = some ad ∧ ∀ j, j < n → w.cell? (ad.add (j * 2)) = some (.int .i64 (xs.getD j (0, 0)).1) ∧ w.cell? (ad.add (j * 2 + 1)) = some (.int .i64 (xs.getD j (0, 0)).2)) ∧
    ∀ j, j < n → ((-9223372036854775808 ≤ (xs.getD j (0, 0)).1 ∧ (xs.getD j (0, 0)).1 ≤ 9223372036854775807) ∧ -9223372036854775808 ≤ (xs.getD j (0, 0)).2 ∧ (xs.getD j (0, 0)).2 ≤ 9223372036854775807)
theorem Pairs.below {w w1 : World} {A : Option Addr} {n : Nat} {xs : List (Int × Int)} (h : Pairs w A n xs) (hb : Below w.heap.size w w1) : Pairs w1 A n xs :=
  ⟨h.1, fun hn => by
    obtain ⟨ad, e, hc⟩ := h.2.1 hn
    exact ⟨ad, e, fun j hj => ⟨pw_cell_below hb (hc j hj).1, pw_cell_below hb (hc j hj).2⟩⟩, h.2.2⟩
set_option maxRecDepth 100000 in
theorem open_pairsF {H : Type} {enc : TypeId × Value → H} {w : World} {base : Nat} {held : Bool} {t : TypeId} {e : TypeId} {f0 f1 : Field} {v : Value} {x : DataW H × List MemPlace} {fuel : Nat}
    (ht : Try.prog.underlying t = some (.slice e)) (he : Try.prog.underlying e = some (.struct #[f0, f1])) (hone : oneCellFields Try.prog #[f0, f1] = true) (hC : Try.prog.cellsOf e = 2)
    (h0 : Try.prog.underlying f0.type = some (.int .i64)) (h1 : Try.prog.underlying f1.type = some (.int .i64))
    (hf : DataW.trod enc Try.prog w base (fun _ => true) held fuel t [v] = some x) :
    ∃ A n c xs, v = .slice A n c ∧ n ≤ c ∧ c ≤ maxLen ∧ Pairs w A n xs := by
  rcases row_cellsF ht he hone hC hf with rfl | ⟨a, len, cap, rfl, hl, hm, hi⟩
  · exact ⟨none, 0, 0, [], rfl, Nat.le_refl _, by decide, rfl, fun h => absurd h (by decide), fun j hj => absurd hj (by omega)⟩
  · let val : Nat → Int := fun o => match w.cell? (a.add o) with | some (.int _ x) => x | _ => 0
    have hs : ∀ i, i < len → (w.cell? (a.add (i * 2)) = some (.int .i64 (val (i * 2))) ∧ (-9223372036854775808 ≤ val (i * 2) ∧ val (i * 2) ≤ 9223372036854775807)) ∧ (w.cell? (a.add (i * 2 + 1)) = some (.int .i64 (val (i * 2 + 1))) ∧ (-9223372036854775808 ≤ val (i * 2 + 1) ∧ val (i * 2 + 1) ≤ 9223372036854775807)) := by
      intro i hil
      constructor
      · obtain ⟨u, y, m, hc, htr⟩ := hi i hil 0 f0 rfl
        obtain ⟨x, hx, _, hw⟩ := DataW.trod_int h0 htr
        obtain rfl : u = .int .i64 x := by simpa using hx
        have hc' : w.cell? (a.add (i * 2)) = some (.int .i64 x) := hc
        have e1 : val (i * 2) = x := by simp only [val, hc']
        rw [e1]; exact ⟨hc', (Lit.wf_int_iff .i64 x).mp hw⟩
      · obtain ⟨u, y, m, hc, htr⟩ := hi i hil 1 f1 rfl
        obtain ⟨x, hx, _, hw⟩ := DataW.trod_int h1 htr
        obtain rfl : u = .int .i64 x := by simpa using hx
        have hc' : w.cell? (a.add (i * 2 + 1)) = some (.int .i64 x) := hc
        have e1 : val (i * 2 + 1) = x := by simp only [val, hc']
        rw [e1]; exact ⟨hc', (Lit.wf_int_iff .i64 x).mp hw⟩
    have hg : ∀ j, j < len → ((List.range len).map fun i => (val (i * 2), val (i * 2 + 1))).getD j (0, 0) = (val (j * 2), val (j * 2 + 1)) := by
      intro j hj
      rw [List.getD_eq_getElem?_getD, List.getElem?_map, List.getElem?_range hj]; rfl
    refine ⟨some a, len, cap, (List.range len).map fun i => (val (i * 2), val (i * 2 + 1)), rfl, hl, hm, by simp, fun _ => ⟨a, rfl, fun j hj => ?_⟩, fun j hj => ?_⟩
    · rw [hg j hj]; exact ⟨(hs j hj).1.1, (hs j hj).2.1⟩
    · rw [hg j hj]; exact ⟨(hs j hj).1.2, (hs j hj).2.2⟩
set_option maxRecDepth 100000 in
theorem open_pairs {H : Type} {enc : TypeId × Value → H} {w : World} {base : Nat} {held : Bool} {r : Reach} {b0 : Nat} {t : TypeId} {e : TypeId} {f0 f1 : Field} {v : Value} {d : DataW H} {p : List MemPlace}
    (ht : Try.prog.underlying t = some (.slice e)) (he : Try.prog.underlying e = some (.struct #[f0, f1])) (hone : oneCellFields Try.prog #[f0, f1] = true) (hC : Try.prog.cellsOf e = 2)
    (h0 : Try.prog.underlying f0.type = some (.int .i64)) (h1 : Try.prog.underlying f1.type = some (.int .i64))
    (hv : Value.okWide Try.prog w r b0 t v) (h : DataW.Trod enc Try.prog w base (fun _ => true) held t v d p) :
    ∃ A n c xs, v = .slice A n c ∧ n ≤ c ∧ c ≤ maxLen ∧ Pairs w A n xs := by
  obtain ⟨A, len, cap, rfl⟩ := okWide_slice ht hv
  obtain ⟨fuel, hf⟩ := h
  exact open_pairsF ht he hone hC h0 h1 (x := (d, p)) hf
end Go.Proofs.Ytkecppgodmbmlaa.BR

namespace Go.Proofs.Ytkecppgodmbmlaa.PK
open Go.RowKit Go.Proofs.YtkecppgodmbmlaaW.PrintWords Go.Proofs.YtkecppgodmbmlaaW.PrintLast Go.Proofs.YtkecppgodmbmlaaW.PrintMore Go.Proofs.Ytkecppgodmbmlaa.CD Go.Proofs.Ytkecppgodmbmlaa.BR
set_option linter.unusedVariables false
set_option linter.unusedSimpArgs false
theorem ticks_of_pairs {w : World} {A : Option Addr} {n c : Nat} {xs : List (Int × Int)} (h : Pairs w A n xs) (hn : n ≤ c) (hm : c ≤ maxLen) : Kd.C kT w A n xs := by
  have e : maxLen = 9223372036854775807 := rfl
  refine ⟨h.1, by omega, fun h0 => ?_⟩
  obtain ⟨ad, rfl, hc⟩ := h.2.1 h0
  refine ⟨ad, rfl, fun j p hj => ⟨[.int .i64 p.1, .int .i64 p.2], rfl, ⟨[_], [_], rfl, rfl, rfl⟩, fun i u hu => ?_⟩⟩
  have hjn : j < n := by have := (List.getElem?_eq_some_iff.1 hj).1; rw [h.1] at this; exact this
  have hp : xs.getD j (0, 0) = p := by rw [List.getD_eq_getElem?_getD, hj]; rfl
  have h2 := hc j hjn
  rw [hp] at h2
  match i, hu with
  | 0, hu =>
    obtain rfl : Value.int .i64 p.1 = u := by simpa using hu
    exact h2.1
  | 1, hu =>
    obtain rfl : Value.int .i64 p.2 = u := by simpa using hu
    exact h2.2
  | i + 2, hu => simp at hu
theorem TK.below {w w' : World} {v : Value} {T : List Pr} (h : TK w v T) (hb : Below w.heap.size w w') : TK w' v T := by
  obtain ⟨A, c, e1, e2, e3⟩ := h
  exact ⟨A, c, e1, e2, Kd.C_below e3 hb⟩
set_option maxRecDepth 100000 in
theorem open_ticks {H : Type} {enc : TypeId × Value → H} {w : World} {base : Nat} {held : Bool} {r : Reach} {b0 : Nat} {v : Value} {d : DataW H} {p : List MemPlace}
    (hv : Value.okWide Try.prog w r b0 23 v) (h : DataW.Trod enc Try.prog w base (fun _ => true) held 23 v d p) :
    ∃ A c T, v = .slice A T.length c ∧ T.length ≤ c ∧ c ≤ maxLen ∧ Kd.C kT w A T.length T := by
  obtain ⟨A, n, c, xs, rfl, hn, hm, hp⟩ := open_pairs Try.underlying23 Try.underlying48 (by kernel_rfl) (by kernel_rfl) Try.underlying3 Try.underlying2 hv h
  have hl := hp.1
  subst hl
  exact ⟨A, c, xs, rfl, hn, hm, ticks_of_pairs hp hn hm⟩
end Go.Proofs.Ytkecppgodmbmlaa.PK

namespace Go.Proofs.Ytkecppgodmbmlaa.PK
open Go.RowKit Go.Proofs.YtkecppgodmbmlaaW.PrintWords Go.Proofs.YtkecppgodmbmlaaW.PrintLast Go.Proofs.YtkecppgodmbmlaaW.PrintMore Go.Proofs.Ytkecppgodmbmlaa.CD Go.Proofs.Ytkecppgodmbmlaa.BR
attribute [local go_sem] max2_int min2_int max_two min_two max_three min_three max_four min_four
set_option linter.unusedVariables false
set_option linter.unusedSimpArgs false
/-- What Put answers, as bytes and an error. -/
def putL (C L T : List Pr) : List Int := if mayB C L T then packB C L T else []
def putE (C L T : List Pr) : Int := if mayB C L T then 0 else 2
theorem put_both (g : Nat) (C L T : List Pr) (v : Value) (w : World) (h : Chunk w g C L v) (hT : TK w v T) (hC : U8 C) (hL : U8 L) (hlT : T.length ≤ 1000000) :
    Calls Try.prog 12 #[.pointer (some ⟨g, 0, none⟩)] w fun e w' => ∃ v, e = .returned (.tuple #[v, .int .i64 (putE C L T)]) ∧ OB w' w.heap.size v (putL C L T) ∧ Below w.heap.size w w' := by
  obtain ⟨A, c, rfl, hc, hk⟩ := hT
  unfold putL putE
  cases hm : mayB C L T with
  | true => exact pput_calls g C L T A c w h hk hC hL hlT hm
  | false => exact (pput_no g C L T A c w h hk hC hL (by omega) hm).mono fun e w' ⟨he, hb⟩ => ⟨_, he, own_nil _ _ _ _, hb⟩
theorem rput_both (g : Nat) (C L T : List Pr) (v : Value) (w : World) (h : Chunk w g C L v) (hT : TK w v T) (hC : U8 C) (hL : U8 L) (hlT : T.length ≤ 1000000) :
    Calls Try.prog 13 #[.pointer (some ⟨g, 0, none⟩)] w fun e w' => ∃ v, e = .returned (.tuple #[v, .int .i64 (putE C L T)]) ∧ OB w' w.heap.size v (putL C L T) ∧ Below w.heap.size w w' := by
  obtain ⟨A, c, rfl, hc, hk⟩ := hT
  unfold putL putE
  cases hm : mayB C L T with
  | true => exact rput_calls g C L T A c w h hk hC hL hlT hm
  | false => exact (rput_no g C L T A c w h hk hC hL (by omega) hm).mono fun e w' ⟨he, hb⟩ => ⟨_, he, own_nil _ _ _ _, hb⟩
set_option maxHeartbeats 1000000 in
set_option maxRecDepth 100000 in
theorem putsLaw (A tA : Option Addr) (c n tc : Nat) (ps : List Pt) (T : List Pr) (w : World) (hl : ps.length ≤ 140737488355328) (hP : Pts w A ps) (hU : PU8 ps) (hn : T.length = n) (hT : Kd.C kT w tA T.length T) (hc : T.length ≤ tc) (hm : tc ≤ maxLen) :
    Calls Try.prog 3 #[.slice A ps.length c, .slice tA n tc] w fun e w' => e = .returned (.bool true) ∧ Below w.heap.size w w' := by
  obtain ⟨m, hmm⟩ : ∃ m : Nat, m = min n 5000 := ⟨_, rfl⟩
  have kmin : (if (5000 : Int) < (n : Int) then (5000 : Int) else (n : Int)) = (m : Int) := by split <;> omega
  have hcut := cut_to (P := Try.prog) 23 48 .i64 Try.underlying23 (info_parts infoTick).choose_spec.1 tA n tc (m : Int) (by omega) (by omega) (by omega)
  simp only [Int.toNat_natCast] at hcut
  have hm5 : m ≤ 5000 := by omega
  have hT5 := C_takeT hT m (by omega)
  obtain ⟨T5, hTT⟩ : ∃ T5, T.take m = T5 := ⟨_, rfl⟩
  have hl5 : T5.length = m := by rw [← hTT, List.length_take]; omega
  rw [hTT] at hT5
  have HM := Lib.hid (fun W (h : Below w.heap.size w W) => (show Calls Try.prog 11 #[.slice A ps.length c, .slice tA m tc] W fun e w' => ∃ v, e = .returned (.pointer (some ⟨W.heap.size, 0, none⟩)) ∧ Chunk w' W.heap.size (madeP (ps.take 1000)).1 (madeP (ps.take 1000)).2 v ∧ TK w' v T5 ∧ Below W.heap.size W w' from by
    have := Made_calls A tA c tc ps T5 W hl (hP.below h) (by rw [hl5]; exact Kd.C_below hT5 h) (by omega) hm (by omega)
    rw [hl5] at this
    exact this))
  have hmu := made_u8 _ (pu8_take hU 1000)
  obtain ⟨C, hC⟩ : ∃ C, (madeP (ps.take 1000)).1 = C := ⟨_, rfl⟩
  obtain ⟨L, hL⟩ : ∃ L, (madeP (ps.take 1000)).2 = L := ⟨_, rfl⟩
  rw [hC, hL] at HM hmu
  have HU := Lib.hid hmu
  have HL5 := Lib.hid (show T5.length ≤ 1000000 by omega)
  obtain ⟨M, hM⟩ : ∃ M, putL C L T5 = M := ⟨_, rfl⟩
  obtain ⟨E, hE⟩ : ∃ E, putE C L T5 = E := ⟨_, rfl⟩
  have eT := BS.beq_same (strOfNums M)
  have eE : (E == E) = true := beq_self_eq_true E
  have HME := Lib.hid (⟨hM, hE⟩ : _ ∧ _)
  clear hC hL hmu hP hT hU hT5 hTT hl5 hmm hn hM hE hc
  go_enter Try.func3, Try.ntmps3
  go_wp2_with fail
  refine (HM.out _ (Below.refl _ _)).mono ?_; rintro e w1 ⟨v1, rfl, hch, htk, hb1⟩
  have HB1 := Lib.hid hb1
  have HC1 := Lib.hid hch
  have HT1 := Lib.hid htk
  clear hch htk hb1
  go_wp2_with fail
  refine (HM.out _ HB1.out).mono ?_; rintro e w2 ⟨v2, rfl, hch, htk, hb2⟩
  have HB2 := Lib.hid (below_step HB1.out hb2)
  have HC2 := Lib.hid hch
  have HT2 := Lib.hid htk
  have HC12 := Lib.hid (HC1.out.below hb2 HC1.out.lt)
  have HT12 := Lib.hid (TK.below HT1.out hb2)
  have hp1 := Lib.hid (put_both _ C L T5 v1 w2 HC12.out HT12.out HU.out.1 HU.out.2 HL5.out)
  rw [HME.out.1, HME.out.2] at hp1
  clear hch htk hb2 HC1 HT1
  go_wp2_with fail
  refine hp1.out.mono ?_; rintro e w3 ⟨b1, rfl, ho1, hb3⟩
  obtain ⟨A1, c1, rfl, hc1, hr1⟩ := OB.slice ho1
  have HB3 := Lib.hid (below_step HB2.out hb3)
  have HR1 := Lib.hid hr1
  have HC13 := Lib.hid (HC12.out.below hb3 HC12.out.lt)
  have HT13 := Lib.hid (TK.below HT12.out hb3)
  have HC23 := Lib.hid (HC2.out.below hb3 HC2.out.lt)
  have HT23 := Lib.hid (TK.below HT2.out hb3)
  have hp2 := Lib.hid (rput_both _ C L T5 v2 w3 HC23.out HT23.out HU.out.1 HU.out.2 HL5.out)
  rw [HME.out.1, HME.out.2] at hp2
  clear ho1 hc1 hr1 hb3 hp1 HC12 HT12 HC2 HT2
  go_wp2_with fail
  refine hp2.out.mono ?_; rintro e w4 ⟨b2, rfl, ho2, hb4⟩
  obtain ⟨A2, c2, rfl, hc2, hr2⟩ := OB.slice ho2
  have HB4 := Lib.hid (below_step HB3.out hb4)
  have k1 := string_of M A1 c1 w4 (HR1.out.below hb4)
  have k2 := string_of M A2 c2 w4 hr2
  have hs := Lib.hid (rsame_calls _ _ C L T5 v1 v2 w4 (HC13.out.below hb4 HC13.out.lt) (HC23.out.below hb4 HC23.out.lt) (TK.below HT13.out hb4) (TK.below HT23.out hb4) HL5.out)
  clear ho2 hc2 hr2 hb4 hp2 HC13 HT13 HC23 HT23
  go_wp2_with fail
  refine hs.out.mono ?_; rintro e w5 ⟨rfl, hb5⟩
  have HB5 := Lib.hid (below_step HB4.out hb5)
  clear hb5 hs k1 k2
  go_wp2_with fail
  refine (works_calls _).mono ?_; rintro e w6 ⟨rfl, hb6⟩
  have HB6 := Lib.hid (below_step HB5.out hb6)
  clear hb6
  go_wp2
  go_ret
  exact ⟨rfl, HB6.out⟩
set_option maxRecDepth 100000 in
theorem putsWalk {H : Type} {enc : TypeId × Value → H} (v : Value) (d : DataW H) (p : List MemPlace) (v2 : Value) (d2 : DataW H) (p2 : List MemPlace) (w : World) {base : Nat} {held : Bool} {r : Reach} {b0 : Nat} {ds : List (DataW H)}
    (hv : Value.okWide Try.prog w r b0 22 v) (h : DataW.Trod enc Try.prog w base (fun _ => true) held 22 v d p)
    {r2 : Reach} {b2 : Nat} (hv2 : Value.okWide Try.prog w r2 b2 23 v2) (h2 : DataW.Trod enc Try.prog w base (fun _ => true) held 23 v2 d2 p2)
    (hsz : (DataW.weightsEach Try.prog [22, 23] (d :: ds)).all (· ≤ reachBytes) = true) :
    Calls Try.prog 3 #[v, v2] w fun e w' => e = .returned (.bool true) ∧ Below w.heap.size w w' := by
  obtain ⟨A, c, ps, rfl, hc, _, hP, hU, hd⟩ := open_parts2 hv h
  obtain ⟨tA, tc, T, rfl, htc, htm, hT⟩ := open_ticks hv2 h2
  have := parts_small2 (j := 0) hsz rfl rfl hd
  exact putsLaw A tA c T.length tc ps T w (by omega) hP hU rfl hT htc htm
end Go.Proofs.Ytkecppgodmbmlaa.PK
