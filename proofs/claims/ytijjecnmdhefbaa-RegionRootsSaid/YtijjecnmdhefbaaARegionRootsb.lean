/- The own texts that the statement RegionRoots leans on: RRefGetRoot, RStrB, RWorks, RRootLaw. -/
import Derived.Test.YtijjecnmdhefbaaARegionRoots
import Derived.Test.YtijjecnmdhefbaaPRegionRootsx4
import Derived.Test.YtijjecnmdhefbaaPRegionRootsx6
import Derived.Outline
import Derived.Lib.ConvBytes
namespace Go.Proofs.Ytijjecnmdhefbaa.RG
open Go.RowKit Go.Proofs.YtijjecnmdhefbaaW.PrintWords Go.Proofs.YtijjecnmdhefbaaW.PrintLast Go.Proofs.YtijjecnmdhefbaaW.PrintMore Go.Proofs.Ytijjecnmdhefbaa.CD Go.Proofs.Ytijjecnmdhefbaa.BR Go.Proofs.Ytijjecnmdhefbaa.BP
set_option linter.unusedVariables false
set_option linter.unusedSimpArgs false
theorem refRegion_calls (x : Ent) (w : World) : Calls Try.prog 43 #[.agg #[.int .i64 x.1, .int .i64 x.2.1, .int .i64 x.2.2.1, .int .i64 x.2.2.2]] w fun e w' => e = .returned (.bool (rMay x)) ∧ Below w.heap.size w w' :=
  PRegionRoots.bedrockref24_Region.calls x.1 x.2.1 x.2.2.1 x.2.2.2 _ w (refRegion_f x)
theorem refint' (w0 : World) (g : Nat) (s : St) (w : World) (h : Rx w0 w g s) :
    Calls Try.prog 47 #[.pointer (some ⟨g, 0, none⟩)] w fun e w' => e = .returned (.int .i64 (rInt' s).1) ∧ Rx w0 w' g (rInt' s).2 ∧ w.grownBy w' (some g) :=
  (BQ.refint_calls g s.1 s.2 w h.rdr).mono fun e w' ⟨he, hr, hg⟩ => ⟨he, h.step hr hg, hg⟩
theorem sameR_l0 (xs : List PRegionRoots.S51) (hx : xs.length ≤ 140737488355328) : ∀ (d f i : Nat), d = xs.length - i → d < f → PRegionRoots.bedrockref24_SameRegions.l0 f xs xs (i : Int) = some true
  | 0, f, i, hd, hf => by
    obtain ⟨f, rfl⟩ : ∃ g, f = g + 1 := ⟨f - 1, by omega⟩
    simp only [PRegionRoots.bedrockref24_SameRegions.l0]
    rw [if_neg (by omega)]
  | d + 1, f, i, hd, hf => by
    obtain ⟨f, rfl⟩ : ∃ g, f = g + 1 := ⟨f - 1, by omega⟩
    simp only [PRegionRoots.bedrockref24_SameRegions.l0]
    rw [if_pos (by omega), if_pos (by omega), if_pos (by omega)]
    simp only [beq_self_eq_true, Bool.not_true, Bool.or_self, Bool.false_eq_true, if_false]
    rw [wb_succ i (by omega), sameR_l0 xs hx d f (i + 1) (by omega) (by omega)]
theorem sameR_calls (A B : Option Addr) (c d : Nat) (xs : List Ent) (w : World) (hl : Kd.C kE w A xs.length xs) (hc : xs.length ≤ c) (hm : Kd.C kE w B xs.length xs) (hd : xs.length ≤ d) (hs : xs.length ≤ 140737488355328) :
    Calls Try.prog 23 #[.slice A xs.length c, .slice B xs.length d] w fun e w' => e = .returned (.bool true) ∧ Drawn0 w w' := by
  have hf : PRegionRoots.bedrockref24_SameRegions.f (xs.length + 1) (xs.map toQ) (xs.map toQ) = some true := by
    unfold PRegionRoots.bedrockref24_SameRegions.f
    rw [if_pos rfl]
    have := sameR_l0 (xs.map toQ) (by rw [List.length_map]; exact hs) xs.length (xs.length + 1) 0 (by rw [List.length_map]; omega) (by omega)
    exact this
  have h := PRegionRoots.bedrockref24_SameRegions.calls (xs.length + 1) A c (xs.map toQ) B d (xs.map toQ) true w (by rw [List.length_map]; exact C_toQ hl) (by rw [List.length_map]; exact hc) (by rw [List.length_map]; exact C_toQ hm) (by rw [List.length_map]; exact hd) hf
  rw [List.length_map] at h
  exact h
set_option maxHeartbeats 4000000 in
set_option maxRecDepth 100000 in
theorem refgetroot_region (A : Option Addr) (c : Nat) (X : List Int) (w : World) (hr : ReadsInt w .u8 A X.length X) (hc : X.length ≤ c) (hb : Bytes X) (hs : X.length ≤ 100000) :
    Calls Try.prog 22 #[.slice A X.length c] w fun e w' => Got 51 (getRoot X) w e w' := by
  have HR0 := Lib.hid hr
  have HC := Lib.hid hc
  have HB := Lib.hid hb
  have hnx0 : Rx w (w.alloc (.cells #[.slice A X.length c, .bool false] 74)) w.heap.size (X, false) :=
    ⟨BQ.RRd.new hr hc hb (by omega) (fun ad e h0 => by
      obtain ⟨ad', e', hcell⟩ := hr.2.2 h0
      rw [e] at e'
      obtain rfl := Option.some.inj e'
      have := World.block_lt_of_cell? w _ (hcell 0 h0)
      have hbk : (ad.add 0).block = ad.block := by unfold Addr.add; split <;> rfl
      omega), below_alloc (Below.refl _ _) _, Nat.le_refl _⟩
  have HX0 := Lib.hid hnx0
  obtain ⟨O, hO⟩ : ∃ O, O = getRoot X := ⟨_, rfl⟩
  rw [← hO]
  obtain ⟨G, hG⟩ : ∃ G, G = getR0 X := ⟨_, rfl⟩
  have HO := Lib.hid (show O = finR X G by rw [hO, hG]; rfl)
  obtain ⟨⟨nn, s1⟩, hn⟩ : ∃ q, rNext (X, false) = q := ⟨_, rfl⟩
  have hnr := rNext_range (X, false) hb
  have hnl := rNext_len (X, false)
  rw [hn] at hnr hnl
  simp only at hnr hnl
  have HG := Lib.hid (show G = getRF (X.length + 2) nn s1 [] by rw [hG]; unfold getR0; rw [hn])
  have Hn := Lib.hid hn
  clear hr hc hb hO hG hn hnx0
  go_enter Try.func22, Try.ntmps22
  go_wp2_with fail
  refine (number_calls' w w.heap.size (X, false) _ HX0.out).mono ?_
  rw [Hn.out]
  rintro e w2 ⟨rfl, hx2, hg2⟩
  have HX2 := Lib.hid hx2
  clear hx2 hg2
  go_wp2_with fail
  go_loopw [6, 7] (fun lv kv W => ∃ (acc : List Ent) (s : St), kv = .int .i64 (acc.length : Int) ∧ lenOf lv = acc.length ∧ 4 * acc.length + s.1.length ≤ X.length ∧ Aside0 (Rx w W w.heap.size s) ∧ Aside0 (Kd.R kE 51 W w.heap.size (fun k => w.heap.size < k) lv acc) ∧ Aside0 (G = getRF (X.length + 2 - acc.length) nn s acc)) (fun lv _ _ => X.length + 5 - lenOf lv)
  case atStart => exact ⟨[], s1, rfl, rfl, by simp; omega, ⟨HX2.out⟩, ⟨Kd.R_nil _ _ _ _ _⟩, ⟨HG.out⟩⟩
  case round =>
    obtain ⟨acc, s, rfl, hlen, hacc, ⟨hx⟩, ⟨hR⟩, ⟨hG⟩⟩ := hrel
    have HX := Lib.hid hx
    obtain ⟨A6, c6, rfl, hc6, hC6⟩ := Kd.R_reads hR
    have HR := Lib.hid hR
    have HE := Lib.hid hC6
    have HGj := Lib.hid hG
    have hl63 : acc.length ≤ 25000 := by omega
    obtain ⟨f, hf⟩ : ∃ f, X.length + 2 - acc.length = f + 1 := ⟨X.length + 1 - acc.length, by omega⟩
    have Hf := Lib.hid hf
    clear hx hR hC6 hG hf hlen
    by_cases hgo : (acc.length : Int) < nn ∧ s.2 = false
    · obtain ⟨g2, g3⟩ := hgo
      have hd2 : decide ((acc.length : Int) < nn) = true := decide_eq_true g2
      have Hc1 := Lib.hid (show (acc.length : Int) < nn ∧ s.2 = false from ⟨g2, g3⟩)
      have hcc := HX.out.flag
      rw [g3] at hcc
      clear g2 g3
      obtain ⟨⟨x1, sa⟩, hx1⟩ : ∃ q, rInt' s = q := ⟨_, rfl⟩
      obtain ⟨⟨x2, sb⟩, hx2⟩ : ∃ q, rInt' sa = q := ⟨_, rfl⟩
      obtain ⟨⟨hd, sh⟩, hhd⟩ : ∃ q, rNext sb = q := ⟨_, rfl⟩
      obtain ⟨⟨sz, sl⟩, hsz⟩ : ∃ q, rNext sh = q := ⟨_, rfl⟩
      have hre : rRegion s = ((x1, x2, hd, sz), sl) := by unfold rRegion; rw [hx1]; simp only; rw [hx2]; simp only; rw [hhd]; simp only; rw [hsz]
      have Hre := Lib.hid hre
      have Hx1 := Lib.hid hx1
      have Hx2 := Lib.hid hx2
      have Hhd := Lib.hid hhd
      have Hsz := Lib.hid hsz
      clear hre hx1 hx2 hhd hsz
      go_wp2_with fail
      refine (refint' w w.heap.size s _ HX.out).mono ?_
      rw [Hx1.out]
      rintro e w4 ⟨rfl, hx4, hg4⟩
      have HX4 := Lib.hid hx4
      have HG4 := Lib.hid hg4
      clear hx4 hg4 hcc
      go_wp2_with fail
      refine (refint' w w.heap.size sa _ HX4.out).mono ?_
      rw [Hx2.out]
      rintro e w5 ⟨rfl, hx5, hg5⟩
      have HX5 := Lib.hid hx5
      have HG5 := Lib.hid (gtrans HG4.out hg5)
      clear hx5 hg5
      go_wp2_with fail
      refine (number_calls' w w.heap.size sb _ HX5.out).mono ?_
      rw [Hhd.out]
      rintro e w6 ⟨rfl, hx6, hg6⟩
      have HX6 := Lib.hid hx6
      have HG6 := Lib.hid (gtrans HG5.out hg6)
      clear hx6 hg6
      go_wp2_with fail
      refine (number_calls' w w.heap.size sh _ HX6.out).mono ?_
      rw [Hsz.out]
      rintro e w8 ⟨rfl, hx8, hg8⟩
      have HB8 := Lib.hid (blk_new w8 (.cells #[.int .i64 x1, .int .i64 x2, .int .i64 hd, .int .i64 sz] 51))
      have HX8 := Lib.hid (hx8.under (below_alloc (Below.refl _ _) (.cells #[.int .i64 x1, .int .i64 x2, .int .i64 hd, .int .i64 sz] 51)))
      have HG8 := Lib.hid (show wr.grownBy (w8.alloc (.cells #[.int .i64 x1, .int .i64 x2, .int .i64 hd, .int .i64 sz] 51)) (some w.heap.size) from gbelow (gtrans HG6.out hg8) (below_alloc (Below.refl _ _) _))
      clear hx8 hg8
      go_wp2_with fail
      refine (refRegion_calls (x1, x2, hd, sz) _).mono ?_; rintro e w9 ⟨rfl, hb9⟩
      have HXa := Lib.hid (HX8.out.under hb9)
      have hb10 := blk_below HB8.out hb9
      have y0 := blk_cell hb10 0
      have y1 := blk_cell hb10 1
      have y2 := blk_cell hb10 2
      have y3 := blk_cell hb10 3
      simp only [List.getElem?_toArray, List.getElem?_cons_succ, List.getElem?_cons_zero] at y0 y1 y2 y3
      have HRa := Lib.hid (Kd.R_grown HR.out (gbelow HG8.out hb9) (fun k hk e => by injection e with e; omega))
      clear hb9 hb10
      cases hmay : rMay (x1, x2, hd, sz) with
      | false =>
        have hfin := Lib.hid (show O = none by rw [HO.out, HGj.out, Hf.out, getRF_may _ _ _ _ Hc1.out (by rw [Hre.out]; exact hmay)]; rfl)
        clear hmay
        go_wp2
        go_ret2
        rw [hfin.out]
        exact ⟨rfl, HXa.out.below⟩
      | true =>
        have hst := Lib.hid (show G = getRF f nn sl (acc ++ [(x1, x2, hd, sz)]) by rw [HGj.out, Hf.out, getRF_some _ _ _ _ Hc1.out (by rw [Hre.out]; exact hmay), Hre.out])
        have hless := (rRegion_less s HX.out.rdr.bytes (by rw [Hre.out]; exact hmay)).2
        rw [Hre.out] at hless
        simp only at hless
        clear hmay
        have Hok := Lib.hid HRa.out.1
        go_wp2_with (at_builtin; refine Kd.R_append kE (w0 := w) w.heap.size rfl (.tmp 48) (.tmp 50) 42 51 _ 32 rfl Try.underlying42 infoR rfl (by decide) (by decide) (.slice A6 acc.length c6) acc (x1, x2, hd, sz) [.int .i64 x1, .int .i64 x2, .int .i64 hd, .int .i64 sz] (fun k => w.heap.size < k) (fun _ => False) rfl rfl (kE_mkM _ _ _ _) (fun _ h => h.elim) ?fresh HRa.out HXa.out.below HXa.out.below.size (by omega) ?_; (case fresh => exact fun k hk => Nat.lt_of_lt_of_le HXa.out.rdr.lt hk); intro v1 w10 hR10 hb10 hg10 hat10; have HXb := Lib.hid (HXa.out.far hg10 (fun k hk => Hok.out k hk)); obtain ⟨A7, c7, rfl, hc7, hC7⟩ := Kd.R_reads hR10; have HRb := Lib.hid hR10; clear hb10 hg10 hat10 hR10 hc7 hC7)
        go_roundw
        case rel => exact ⟨acc ++ [(x1, x2, hd, sz)], sl, by rw [List.length_append]; go_num, by simp [lenOf], by rw [List.length_append]; simp; omega, ⟨HXb.out⟩, ⟨by have h := HRb.out; simp only [List.length_append, List.length_cons, List.length_nil] at h; exact h⟩, ⟨by rw [hst.out]; congr 1; rw [List.length_append]; have := Hf.out; simp; omega⟩⟩
        case measure => simp [lenOf]; omega
    · have hway : (¬ (acc.length : Int) < nn) ∨ ((acc.length : Int) < nn ∧ s.2 = true) := by
        by_cases k2 : (acc.length : Int) < nn
        · exact .inr ⟨k2, by cases hs2 : s.2 with | true => rfl | false => exact absurd ⟨k2, hs2⟩ hgo⟩
        · exact .inl k2
      clear hgo
      rcases hway with k2 | ⟨k2, k3⟩
      · have hd2 : decide ((acc.length : Int) < nn) = false := decide_eq_false k2
        have hput := Lib.hid (refPutRoot_calls A6 c6 acc wr hc6 (by omega) HE.out)
        have hend := Lib.hid (show G = some (acc, s) by rw [HGj.out, Hf.out]; exact getRF_end _ _ _ _ (fun h => k2 h.1))
        cases hdr : root acc with
        | error k =>
          rw [hdr] at hput
          have hfin := Lib.hid (show O = none by rw [HO.out, hend.out]; exact finR_err _ _ _ _ hdr)
          rcases root_err acc k hdr with rfl | rfl
          all_goals (
            clear hdr
            simp only [told] at hput
            go_wp2_with fail
            refine hput.out.mono ?_; rintro e wa ⟨v, rfl, ho, hba⟩
            obtain ⟨Ab, cb, rfl, hcb, hrb⟩ := ho.slice
            have HBa := Lib.hid (below_step HX.out.below hba)
            clear hba ho hcb hrb
            go_wp2
            go_ret2
            rw [hfin.out]
            exact ⟨rfl, HBa.out⟩)
        | ok b =>
          rw [hdr] at hput
          have hfin := Lib.hid (show O = if b = X ∧ s.2 = false then some acc else none by rw [HO.out, hend.out]; exact finR_ok _ _ _ _ hdr)
          have HBb := Lib.hid (root_bytes acc b (by omega) hdr)
          clear hdr
          simp only [told] at hput
          go_wp2_with fail
          refine hput.out.mono ?_; rintro e wa ⟨v, rfl, ho, hba⟩
          obtain ⟨Ab, cb, rfl, hcb, hrb⟩ := ho.slice
          have HXa := Lib.hid (HX.out.under hba)
          have HRa := Lib.hid (Kd.R_below HR.out hba)
          have Hrb := Lib.hid hrb
          have Hcb := Lib.hid hcb
          have hcc := HXa.out.flag
          clear hba ho hrb hcb
          cases hs2 : s.2 with
          | true =>
            have hfin2 := Lib.hid (show O = none by rw [hfin.out, hs2]; simp)
            rw [hs2] at hcc
            clear hs2
            go_wp2
            go_ret2
            rw [hfin2.out]
            exact ⟨rfl, HXa.out.below⟩
          | false =>
            rw [hs2] at hcc
            have hfin2 := Lib.hid (show O = if b = X then some acc else none by rw [hfin.out, hs2]; simp)
            clear hs2
            go_wp2_with fail
            refine (same_calls Ab A cb c b X _ Hrb.out Hcb.out (HR0.out.below HXa.out.below) HC.out (by omega)).mono ?_; rintro e wc ⟨rfl, ⟨nc, rfl⟩⟩
            by_cases hbx : b = X
            · have hd9 : decide (b = X) = true := decide_eq_true hbx
              have hfin3 := Lib.hid (show O = some acc by rw [hfin2.out, if_pos hbx])
              clear hbx
              go_wp2
              go_ret2
              rw [hfin3.out]
              exact ⟨⟨_, rfl, Kd.R_mono (Kd.R_below HRa.out (pw_below_drewN (Below.refl _ _) _)) (fun _ _ => trivial)⟩, pw_below_drewN HXa.out.below _⟩
            · have hd9 : decide (b = X) = false := decide_eq_false hbx
              have hfin3 := Lib.hid (show O = none by rw [hfin2.out, if_neg hbx])
              clear hbx
              go_wp2
              go_ret2
              rw [hfin3.out]
              exact ⟨rfl, pw_below_drewN HXa.out.below _⟩
      · have hd2 : decide ((acc.length : Int) < nn) = true := decide_eq_true k2
        have hcc0 := HX.out.flag
        rw [k3] at hcc0
        have K3 := Lib.hid k3
        clear k3
        have hput := Lib.hid (refPutRoot_calls A6 c6 acc wr hc6 (by omega) HE.out)
        have hend := Lib.hid (show G = some (acc, s) by rw [HGj.out, Hf.out]; exact getRF_end _ _ _ _ (fun h => by rw [K3.out] at h; exact absurd h.2 (by simp)))
        cases hdr : root acc with
        | error k =>
          rw [hdr] at hput
          have hfin := Lib.hid (show O = none by rw [HO.out, hend.out]; exact finR_err _ _ _ _ hdr)
          rcases root_err acc k hdr with rfl | rfl
          all_goals (
            clear hdr
            simp only [told] at hput
            go_wp2_with fail
            refine hput.out.mono ?_; rintro e wa ⟨v, rfl, ho, hba⟩
            obtain ⟨Ab, cb, rfl, hcb, hrb⟩ := ho.slice
            have HBa := Lib.hid (below_step HX.out.below hba)
            clear hba ho hcb hrb
            go_wp2
            go_ret2
            rw [hfin.out]
            exact ⟨rfl, HBa.out⟩)
        | ok b =>
          rw [hdr] at hput
          have hfin := Lib.hid (show O = if b = X ∧ s.2 = false then some acc else none by rw [HO.out, hend.out]; exact finR_ok _ _ _ _ hdr)
          have HBb := Lib.hid (root_bytes acc b (by omega) hdr)
          clear hdr
          simp only [told] at hput
          go_wp2_with fail
          refine hput.out.mono ?_; rintro e wa ⟨v, rfl, ho, hba⟩
          obtain ⟨Ab, cb, rfl, hcb, hrb⟩ := ho.slice
          have HXa := Lib.hid (HX.out.under hba)
          have HRa := Lib.hid (Kd.R_below HR.out hba)
          have Hrb := Lib.hid hrb
          have Hcb := Lib.hid hcb
          have hcc := HXa.out.flag
          clear hba ho hrb hcb
          cases hs2 : s.2 with
          | true =>
            have hfin2 := Lib.hid (show O = none by rw [hfin.out, hs2]; simp)
            rw [hs2] at hcc
            clear hs2
            go_wp2
            go_ret2
            rw [hfin2.out]
            exact ⟨rfl, HXa.out.below⟩
          | false =>
            rw [hs2] at hcc
            have hfin2 := Lib.hid (show O = if b = X then some acc else none by rw [hfin.out, hs2]; simp)
            clear hs2
            go_wp2_with fail
            refine (same_calls Ab A cb c b X _ Hrb.out Hcb.out (HR0.out.below HXa.out.below) HC.out (by omega)).mono ?_; rintro e wc ⟨rfl, ⟨nc, rfl⟩⟩
            by_cases hbx : b = X
            · have hd9 : decide (b = X) = true := decide_eq_true hbx
              have hfin3 := Lib.hid (show O = some acc by rw [hfin2.out, if_pos hbx])
              clear hbx
              go_wp2
              go_ret2
              rw [hfin3.out]
              exact ⟨⟨_, rfl, Kd.R_mono (Kd.R_below HRa.out (pw_below_drewN (Below.refl _ _) _)) (fun _ _ => trivial)⟩, pw_below_drewN HXa.out.below _⟩
            · have hd9 : decide (b = X) = false := decide_eq_false hbx
              have hfin3 := Lib.hid (show O = none by rw [hfin2.out, if_neg hbx])
              clear hbx
              go_wp2
              go_ret2
              rw [hfin3.out]
              exact ⟨rfl, pw_below_drewN HXa.out.below _⟩
end Go.Proofs.Ytijjecnmdhefbaa.RG

namespace Go.Proofs.Ytijjecnmdhefbaa.RG
open Go.RowKit Go.Proofs.YtijjecnmdhefbaaW.PrintWords Go.Proofs.YtijjecnmdhefbaaW.PrintLast Go.Proofs.YtijjecnmdhefbaaW.PrintMore Go.Proofs.Ytijjecnmdhefbaa.CD Go.Proofs.Ytijjecnmdhefbaa.BR Go.Proofs.Ytijjecnmdhefbaa.BP
set_option linter.unusedVariables false
set_option linter.unusedSimpArgs false
abbrev bw (W : World) (t : ByteArray) : World := Lib.bytesWorld W 5 t
theorem bytes_run (t : ByteArray) (W : World) : (convert 9 34 (.string t)).run Try.prog W = .ok (.slice (some ⟨W.heap.size, 0, none⟩) t.size (grownCap W t.size 0 5)) (bw W t) := print_bytes (P := Try.prog) 9 34 5 Try.underlying9 Try.underlying34 Try.underlying5 t W
theorem bw_below (W : World) (t : ByteArray) : Below W.heap.size W (bw W t) := bytes_below (Below.refl _ _) (Nat.le_refl _) 5 t
theorem bw_reads (W : World) (t : ByteArray) (ht : t.size ≤ 9223372036854775807) : ReadsInt (bw W t) .u8 (some ⟨W.heap.size, 0, none⟩) (bytesOf t).length (bytesOf t) := by
  rw [bytesOf_length]; exact bytes_reads W 5 t ht
def errOf (o : Option (List Ent)) : Int := match o with | some _ => 0 | none => 4
/-- A get's answer, by its list (none's is empty) and its error. -/
theorem got_two {o : Option (List Ent)} {t : Nat} {w w' : World} {e : Ending} (h : Got t o w e w') : ∃ v, e = .returned (.tuple #[v, .int .i64 (errOf o)]) ∧ Kd.R kE t w' w.heap.size (fun _ => True) v (o.getD []) ∧ Below w.heap.size w w' := by
  obtain ⟨h1, h2⟩ := h
  cases o with
  | none => exact ⟨_, h1, Kd.R_nil _ _ _ _ _, h2⟩
  | some l => obtain ⟨v, he, hR⟩ := h1; exact ⟨v, he, hR, h2⟩
end Go.Proofs.Ytijjecnmdhefbaa.RG

namespace Go.Proofs.Ytijjecnmdhefbaa.RG
open Go.RowKit Go.Proofs.YtijjecnmdhefbaaW.PrintWords Go.Proofs.YtijjecnmdhefbaaW.PrintLast Go.Proofs.YtijjecnmdhefbaaW.PrintMore Go.Proofs.Ytijjecnmdhefbaa.CD Go.Proofs.Ytijjecnmdhefbaa.BR Go.Proofs.Ytijjecnmdhefbaa.BP
set_option linter.unusedVariables false
set_option linter.unusedSimpArgs false
def two : List Ent := [(3, 9, 100, 0), (5, 10, 7, 300)]
def twoB : List Int := [2, 3, 9, 100, 0, 1, 10, 7, 172, 2]
theorem two_dir : dir two = .ok twoB := by kernel_rfl
theorem two_ents (w : World) : Ents (w.alloc (.cells #[.int .i64 3, .int .i64 9, .int .i64 100, .int .i64 0, .int .i64 5, .int .i64 10, .int .i64 7, .int .i64 300] 49)) (some ⟨w.heap.size, 0, none⟩) 2 two := by
  refine ⟨rfl, fun j hj => ⟨_, rfl, ?_⟩⟩
  have Hb := blk_new w (.cells #[.int .i64 3, .int .i64 9, .int .i64 100, .int .i64 0, .int .i64 5, .int .i64 10, .int .i64 7, .int .i64 300] 49)
  rcases (by omega : j = 0 ∨ j = 1) with rfl | rfl
  · exact ⟨blk_cell Hb 0, blk_cell Hb 1, blk_cell Hb 2, blk_cell Hb 3⟩
  · exact ⟨blk_cell Hb 4, blk_cell Hb 5, blk_cell Hb 6, blk_cell Hb 7⟩
theorem hcv24 {A : Option Addr} {c : Nat} {l : List Int} {W : World} (hr : ReadsInt W .u8 A l.length l) : (convert 34 9 (.slice A l.length c)).run Try.prog W = .ok (.string (strOfNums l)) W :=
  string_of_reads (c := c) (src := 34) Try.underlying34 Try.underlying5 Try.underlying9 hr
set_option maxHeartbeats 1000000 in
set_option maxRecDepth 100000 in
theorem works24 (w : World) : Calls Try.prog 13 #[] w fun e w' => e = .returned (.bool true) ∧ Below w.heap.size w w' := by
  have HE := Lib.hid two_ents
  have hdir := Lib.hid two_dir
  obtain ⟨L, hL⟩ : ∃ L, L = twoB := ⟨_, rfl⟩
  have ET : Hid (((strOfNums L).toList == ([2, 3, 9, 100, 0, 1, 10, 7, 172, 2] : List UInt8)) = true) := Lib.hid (by rw [hL]; decide +kernel)
  rw [← hL] at hdir
  clear hL
  go_enter Try.func13, Try.ntmps13
  go_wp2_with fail
  refine (put_region _ 2 _ two _ (Nat.le_refl _) (by omega) (HE.out _)).mono ?_
  rintro e w1 ⟨hd, hb⟩
  rw [hdir.out] at hd
  obtain ⟨v, rfl, ho⟩ := hd
  obtain ⟨A1, c1, rfl, hc1, hr1⟩ := ho.slice
  have HB1 := Lib.hid (below_step (below_alloc (Below.refl _ _) _) hb)
  have kz := hcv24 (c := c1) hr1
  have eT := ET.out
  clear hb ho hc1 hr1
  go_wp2
  go_ret
  exact ⟨rfl, HB1.out⟩
end Go.Proofs.Ytijjecnmdhefbaa.RG

namespace Go.Proofs.Ytijjecnmdhefbaa.RG
open Go.ChangeShapes Go.WideShapes Go.RowKit Go.Proofs.YtijjecnmdhefbaaW.PrintWords Go.Proofs.YtijjecnmdhefbaaW.PrintLast Go.Proofs.YtijjecnmdhefbaaW.PrintMore Go.Proofs.Ytijjecnmdhefbaa.CD Go.Proofs.Ytijjecnmdhefbaa.BR Go.Proofs.Ytijjecnmdhefbaa.BP
attribute [local go_sem] max2_int min2_int max_two min_two max_three min_three max_four min_four
set_option linter.unusedVariables false
set_option linter.unusedSimpArgs false
theorem rgetstr (t : ByteArray) (W : World) (ht : t.size ≤ 100000) :
    Calls Try.prog 21 #[.slice (some ⟨W.heap.size, 0, none⟩) t.size (grownCap W t.size 0 5)] (bw W t) fun e w' => Got 51 (getRoot (bytesOf t)) W e w' := by
  have h := getroot_region (some ⟨W.heap.size, 0, none⟩) (grownCap W t.size 0 5) (bytesOf t) (bw W t) (bw_reads W t (by omega)) (by rw [bytesOf_length]; exact grownCap_ge _ _ _ _) (BS.bytes_bytesOf t) (by rw [bytesOf_length]; exact ht)
  rw [bytesOf_length] at h
  refine h.mono ?_
  rintro e w' ⟨h1, h2⟩
  refine ⟨?_, below_step (bw_below W t) h2⟩
  cases hg : getRoot (bytesOf t) with
  | none => rw [hg] at h1; exact h1
  | some l => rw [hg] at h1; obtain ⟨v, he, hR⟩ := h1; exact ⟨v, he, Kd.R_lower hR (bw_below W t).size⟩
theorem rrefgetstr (t : ByteArray) (W : World) (ht : t.size ≤ 100000) :
    Calls Try.prog 22 #[.slice (some ⟨W.heap.size, 0, none⟩) t.size (grownCap W t.size 0 5)] (bw W t) fun e w' => Got 51 (getRoot (bytesOf t)) W e w' := by
  have h := refgetroot_region (some ⟨W.heap.size, 0, none⟩) (grownCap W t.size 0 5) (bytesOf t) (bw W t) (bw_reads W t (by omega)) (by rw [bytesOf_length]; exact grownCap_ge _ _ _ _) (BS.bytes_bytesOf t) (by rw [bytesOf_length]; exact ht)
  rw [bytesOf_length] at h
  refine h.mono ?_
  rintro e w' ⟨h1, h2⟩
  refine ⟨?_, below_step (bw_below W t) h2⟩
  cases hg : getRoot (bytesOf t) with
  | none => rw [hg] at h1; exact h1
  | some l => rw [hg] at h1; obtain ⟨v, he, hR⟩ := h1; exact ⟨v, he, Kd.R_lower hR (bw_below W t).size⟩
set_option maxHeartbeats 1000000 in
set_option maxRecDepth 100000 in
theorem rootLaw (A : Option Addr) (n c : Nat) (xs : List Ent) (s : ByteArray) (w : World) (hn : n ≤ c) (hm : c ≤ maxLen) (hp : Kd.C kE w A n xs) :
    Calls Try.prog 6 #[.slice A n c, .string s] w fun e w' => e = .returned (.bool true) ∧ Below w.heap.size w w' := by
  obtain ⟨m, hmm⟩ : ∃ m : Nat, m = min n 500 := ⟨_, rfl⟩
  obtain ⟨q, hqq⟩ : ∃ q : Nat, q = min s.size 5000 := ⟨_, rfl⟩
  have kmin : (if (500 : Int) < (n : Int) then (500 : Int) else (n : Int)) = (m : Int) := by split <;> omega
  have kmin2 : (if (5000 : Int) < (s.size : Int) then (5000 : Int) else (s.size : Int)) = (q : Int) := by split <;> omega
  have hcut := cut_to (P := Try.prog) 42 51 .i64 Try.underlying42 (info_parts infoR).choose_spec.1 A n c (m : Int) (by omega) (by omega) hn
  simp only [Int.toNat_natCast] at hcut
  have hq1 : (q : Int) ≤ (s.size : Int) := by omega
  have hq0 : (0 : Int) ≤ (q : Int) := by omega
  clear hmm hqq
  obtain ⟨ys, hys⟩ : ∃ ys, ys = xs.take m := ⟨_, rfl⟩
  have hC := C_take hp m (by omega)
  rw [← hys] at hC
  have hyl : ys.length = m := hC.1
  have HC := Lib.hid hC
  have hm11 : m ≤ 500 := by omega
  have hmc : m ≤ c := by omega
  have HP1 := Lib.hid (fun W (h : Kd.C kE W A m ys) => (hyl ▸ putRoot_calls A c ys W (by omega) (by omega) (hyl.symm ▸ h) : Calls Try.prog 19 #[.slice A m c] W fun e w' => ∃ v, e = .returned (.tuple #[v, .int .i64 (told (root ys)).2]) ∧ OB w' W.heap.size v (told (root ys)).1 ∧ Below W.heap.size W w'))
  have HP2 := Lib.hid (fun W (h : Kd.C kE W A m ys) => (hyl ▸ refPutRoot_calls A c ys W (by omega) (by omega) (hyl.symm ▸ h) : Calls Try.prog 20 #[.slice A m c] W fun e w' => ∃ v, e = .returned (.tuple #[v, .int .i64 (told (root ys)).2]) ∧ OB w' W.heap.size v (told (root ys)).1 ∧ Below W.heap.size W w'))
  obtain ⟨⟨L, er⟩, hL⟩ : ∃ q, told (root ys) = q := ⟨_, rfl⟩
  rw [hL] at HP1 HP2
  simp only at HP1 HP2
  obtain ⟨t, ht⟩ : ∃ t, t = s.extract 0 q := ⟨_, rfl⟩
  have htl : t.size ≤ 5000 := by rw [ht, ByteArray.size_extract]; omega
  have HT := Lib.hid ht.symm
  have HG1 := Lib.hid (fun W => (rgetstr t W (by omega)).mono fun e w' h => got_two h)
  have HG2 := Lib.hid (fun W => (rrefgetstr t W (by omega)).mono fun e w' h => got_two h)
  have hlen : ((getRoot (bytesOf t)).getD []).length ≤ 140737488355328 := by
    cases hg : getRoot (bytesOf t) with
    | none => simp
    | some l => simp only [Option.getD_some]; exact Nat.le_trans (getRoot_len _ _ hg) (by rw [bytesOf_length]; omega)
  obtain ⟨Z, hZ⟩ : ∃ Z, Z = (getRoot (bytesOf t)).getD [] := ⟨_, rfl⟩
  obtain ⟨z, hz⟩ : ∃ z : Int, z = errOf (getRoot (bytesOf t)) := ⟨_, rfl⟩
  rw [← hZ, ← hz] at HG1 HG2
  rw [← hZ] at hlen
  have Hlen := Lib.hid hlen
  have eT := BS.beq_same (strOfNums L)
  clear hp hys hC hyl hL ht hZ hz hlen hn hm
  go_enter Try.func6, Try.ntmps6
  go_wp2_with fail
  refine (HP1.out _ HC.out).mono ?_; rintro e w1 ⟨v1, rfl, ho1, hb1⟩
  obtain ⟨A1, c1, rfl, hc1, hr1⟩ := ho1.slice
  have HB1 := Lib.hid hb1
  have HR1 := Lib.hid hr1
  have HC1 := Lib.hid (Kd.C_below HC.out hb1)
  clear ho1 hc1 hr1 hb1
  go_wp2_with fail
  refine (HP2.out _ HC1.out).mono ?_; rintro e w2 ⟨v2, rfl, ho2, hb2⟩
  obtain ⟨A2, c2, rfl, hc2, hr2⟩ := ho2.slice
  have HB2 := Lib.hid (below_step HB1.out hb2)
  have HR2 := Lib.hid hr2
  have HR12 := Lib.hid (HR1.out.below hb2)
  clear ho2 hc2 hr2 hb2
  have kb := bytes_run t
  have kt := HT.out
  go_wp2_with fail
  refine (HG1.out _).mono ?_; rintro e w3 ⟨v3, rfl, hR3, hb3⟩
  obtain ⟨A3, c3, rfl, hc3, hC3⟩ := Kd.R_reads hR3
  have HB3 := Lib.hid (below_step HB2.out hb3)
  have HR13 := Lib.hid (HR12.out.below hb3)
  have HR23 := Lib.hid (HR2.out.below hb3)
  have HC3 := Lib.hid hC3
  have Hc3 := Lib.hid hc3
  clear hR3 hc3 hC3 hb3
  go_wp2_with fail
  refine (HG2.out _).mono ?_; rintro e w4 ⟨v4, rfl, hR4, hb4⟩
  obtain ⟨A4, c4, rfl, hc4, hC4⟩ := Kd.R_reads hR4
  have HB4 := Lib.hid (below_step HB3.out hb4)
  have k1 := hcv24 (c := c1) (HR13.out.below hb4)
  have k2 := hcv24 (c := c2) (HR23.out.below hb4)
  have HC34 := Lib.hid (Kd.C_below HC3.out hb4)
  have HC4 := Lib.hid hC4
  have Hc4 := Lib.hid hc4
  clear hR4 hc4 hC4 hb4 kb kt
  go_wp2_with fail
  refine (sameR_calls A3 A4 c3 c4 Z _ HC34.out Hc3.out HC4.out Hc4.out Hlen.out).mono ?_; rintro e w5 ⟨rfl, ⟨n5, rfl⟩⟩
  go_wp2_with fail
  refine (works24 _).mono ?_; rintro e w6 ⟨rfl, hb6⟩
  have HB6 := Lib.hid (below_step (pw_below_drewN HB4.out n5) hb6)
  clear hb6
  go_wp2
  go_ret
  exact ⟨rfl, HB6.out⟩
theorem rootWalk {H : Type} {enc : TypeId × Value → H} {Q : Prop} (v : Value) (d : DataW H) (p : List MemPlace) (s : ByteArray) (w : World) {base : Nat} {held : Bool} {r : Reach} {b0 : Nat}
    (hv : Value.okWide Try.prog w r b0 42 v) (h : DataW.Trod enc Try.prog w base (fun _ => true) held 42 v d p) (hs : s.size ≤ 140737488351232) (hq : Q) :
    Calls Try.prog 6 #[v, .string s] w fun e w' => e = .returned (.bool true) ∧ Below w.heap.size w w' := by
  obtain ⟨A, n, c, xs, rfl, hn, hm, hp, _⟩ := open_ents Try.underlying42 Try.underlying51 (by kernel_rfl) (by kernel_rfl) Try.underlying3 Try.underlying3 Try.underlying3 Try.underlying3 hv h
  exact rootLaw A n c xs s w hn hm hp
end Go.Proofs.Ytijjecnmdhefbaa.RG
