/- The own texts that the statement FreemapHomes leans on: FmOfW, FmBack, FmRefHomes, FmRefOf, FmPlays, FmHomesLaw. -/
import Derived.Test.YtdjjmmndfbffcaaDoorAFreemapHomes
import Derived.SliceStrings
import Derived.OpenShut
namespace Go.Proofs.YtdjjmmndfbffcaaDoor.FM
open Go.RowKit Go.Proofs.YtdjjmmndfbffcaaDoorW.PrintWords Go.Proofs.YtdjjmmndfbffcaaDoorW.PrintLast Go.Proofs.YtdjjmmndfbffcaaDoorW.PrintMore Go.Proofs.YtdjjmmndfbffcaaDoor.CD Go.Proofs.YtdjjmmndfbffcaaDoor.SP
set_option linter.unusedVariables false
set_option linter.unusedSimpArgs false
abbrev SRd (W : World) (P : Option Addr) (N : Nat) (hs : List ByteArray) : Prop := ReadsOf Value.string ByteArray.empty W P N hs
def Offed (W : World) (n : Nat) (hs : List ByteArray) (e : Ending) (w' : World) : Prop :=
  ((∃ (f : Nat → Bool) (g A c : Nat) (ws : List Nat), IsH n f hs ∧ e = .returned (.tuple #[.pointer (some ⟨g, 0, none⟩), .int .i64 0]) ∧ FmAt w' g A c n f ws ∧ W.heap.size ≤ g ∧ W.heap.size ≤ A) ∨
    (∀ f, ¬ IsH n f hs) ∧ e = .returned (.tuple #[.pointer none, .int .i64 4])) ∧ Below W.heap.size W w'
theorem equal_calls {V : World} {b : Nat} {v : Value} {l hs : List ByteArray} (P : Option Addr) (N cap : Nat) (h1 : SR V b v l) (h2 : SRd V P N hs) (hl : l.length = N) (h0 : 0 < N) :
    Calls Tryd.prog 45 #[v, .slice P N cap] V fun e w' => e = .returned (.bool (decide (l = hs))) ∧ Below V.heap.size V w' := by
  obtain ⟨A1, c1, rfl⟩ := own_slice h1
  unfold SR at h1
  rw [hl] at h1
  rw [hl]
  obtain ⟨G1, rfl, _, _⟩ := own_form h1 h0
  obtain ⟨ad, rfl, hc⟩ := h2.2.2 h0
  obtain ⟨b2, o2, spot⟩ := ad
  have g0 := hc 0 h0
  have hspot : spot = none := by
    have := World.cell?_spot g0
    simpa [Addr.add] using this
  subst hspot
  have h2l := h2.1
  refine (Tryd.slices_Equal_string G1 0 N c1 b2 o2 N cap l hs V (by omega) (by omega) (by have := h2.2.1; omega) (by have := h2.2.1; omega) (fun j hj => ?_) (fun j hj => ?_)).mono fun e w' ⟨he, q, hw⟩ => ⟨?_, by rw [hw]; exact pw_below_drewN (Below.refl _ _) q⟩
  · rw [Nat.zero_add]
    exact SR.at_ h1 j (by omega)
  · have := hc j (by omega)
    rwa [Addr.add_mid] at this
  · rw [he, List.take_of_length_le (by omega), List.take_of_length_le (by omega)]
set_option maxHeartbeats 8000000 in
set_option maxRecDepth 100000 in
theorem of_calls (n : Nat) (hn : 256 ≤ n ∧ n ≤ 131072) (P : Option Addr) (N cap : Nat) (hs : List ByteArray) (W : World) (hr : SRd W P N hs) (ht : CK.Tab W) (h1 : 1 < W.heap.size) :
    Calls Tryd.prog 34 #[.int .i64 (n : Int), .slice P N cap] W fun e w' => Offed W n hs e w' := by
  have HNN := Lib.hid hn
  have HR := Lib.hid hr
  have HT := Lib.hid ht
  have H1 := Lib.hid h1
  have HNw := Lib.hid (new_calls n hn W)
  obtain ⟨S, hS⟩ : ∃ S, sizeN n = S := ⟨_, rfl⟩
  have HSe := Lib.hid hS
  have HSr : Hid (1 ≤ S ∧ S ≤ 33) := Lib.hid (by rw [← hS]; unfold sizeN; omega)
  have HSz := Lib.hid (fun V => size_calls n hn V)
  rw [hS] at HSz
  clear hn hr ht h1 hS
  go_enter Tryd.func34, Tryd.ntmps34
  go_wp2_with fail
  refine HNw.out.mono ?_; rintro e w1 ⟨rfl, ⟨c, ws, hfm⟩, hb1⟩
  obtain ⟨g, hg⟩ : ∃ g, W.heap.size + 1 = g := ⟨_, rfl⟩
  obtain ⟨A, hA⟩ : ∃ A, W.heap.size = A := ⟨_, rfl⟩
  have Hg : Hid (A + 1 = g) := Lib.hid (by rw [← hA]; exact hg)
  have HAe := Lib.hid hA
  rw [hg, hA] at hfm
  have HF1 := Lib.hid hfm
  have HB1 := Lib.hid hb1
  rw [hg]
  clear hfm hb1 hg hA
  go_wp2_with fail
  refine (HSz.out _).mono ?_; rintro e w2 ⟨rfl, hb2⟩
  have HF2 := Lib.hid (HF1.out.below hb2 (Nat.le_refl _))
  have HB2 := Lib.hid (below_step HB1.out hb2)
  clear hb2 HF1 HB1
  by_cases hNS : N = S
  · subst hNS
    obtain ⟨L, hL⟩ : ∃ L, ws.length = L := ⟨_, rfl⟩
    have HLn : Hid (L = (n + 63) / 64) := Lib.hid (by rw [← hL]; exact HF2.out.rep.len)
    obtain ⟨c0, c1, c2⟩ := HF2.out.cells
    rw [hL] at c2
    have hz0 : ∀ w, (zeroValue 56).run Tryd.prog w = .ok (.int .u64 0) w := fun w => by kernel_rfl
    have HRow0 : Hid (w2.ownsRow 0 56 1 (.slice (some ⟨A, 0, none⟩) L c) L (nums .u64 (ints ws))) := Lib.hid (by rw [← hL]; exact HF2.out.row)
    have hcl : ∀ ty, (Builtin.clear_ #[52] ty #[.slice (some ⟨A, 0, none⟩) L c]).run Tryd.prog w2 = .ok (.tuple #[]) (w2.setCells A 0 (List.replicate L (.int .u64 0))) := fun ty =>
      Lib.run_clear_slice w2 52 56 ty (.int .u64 0) Tryd.underlying52 hz0 rfl rfl A 0 L c (by have := HLn.out; have := HNN.out; omega) (fun j hj => by
        rw [Nat.zero_add, (HF2.out.word j (by rw [hL]; exact hj)).1]; rfl) (fun j hj => by rw [Nat.zero_add]; exact (HF2.out.word j (by rw [hL]; exact hj)).2)
    obtain ⟨hz, hgz⟩ := own_zero L 0 w2 ws (by omega) hL HRow0.out
    have hbz : (w2.setCells A 0 (List.replicate L (.int .u64 0))).heap[g]? = w2.heap[g]? := hgz.block g HF2.out.lt.1 (fun e => by injection e with e; have := Hg.out; omega)
    rw [List.take_zero, List.nil_append] at hz
    have HZ := Lib.hid hz
    have HK3 : Hid ((w2.setCells A 0 (List.replicate L (.int .u64 0))).heap[g]? = some (.cells #[.int .i64 (n : Int), .int .i64 (cnt (upTo n) n : Int), .slice (some ⟨A, 0, none⟩) L c] 54 (0, 0))) := Lib.hid (by rw [hbz, ← hL]; exact HF2.out.blk)
    have HB3 : Hid (Below W.heap.size W (w2.setCells A 0 (List.replicate L (.int .u64 0)))) := Lib.hid (Only.below (g := g) (A := A) HB2.out (Only.grown hgz (.inr (.inl rfl))) HB2.out.size (by have := Hg.out; have := HAe.out; omega) (by have := HAe.out; omega))
    have HLl := Lib.hid hL
    clear hz hgz hbz hz0 hL
    go_upto_region 7 with fail
    clear c0 c1 c2 hcl
    obtain ⟨w3, hw3⟩ : ∃ V, w2.setCells A 0 (List.replicate L (.int .u64 0)) = V := ⟨_, rfl⟩
    rw [hw3] at HZ HK3 HB3
    rw [hw3]
    clear hw3
    have c1 := blk_cell HK3.out 1
    simp only [List.getElem?_toArray, List.getElem?_cons_succ, List.getElem?_cons_zero] at c1
    have b0 := blk_frozen HK3.out
    have HF4 : Hid (FmAt (w3.setCell ⟨g, 1, none⟩ (.int .i64 0)) g A c n (gF hs (4000 * 0)) (List.replicate L 0)) := Lib.hid (by
      refine ⟨?_, ?_, by have := Hg.out; omega, ?_, HNN.out⟩
      · rw [Nat.mul_zero, gF_zero, cnt_none _ n (fun _ _ => rfl), List.length_replicate]
        exact blk_put HK3.out 1 (.int .i64 0) rfl
      · rw [List.length_replicate]
        exact own_move HZ.out (fun k hk => by
          have hkk : A = k := by injection hk
          rw [← hkk]
          exact Below.heap_setCell w3 _ _ A (fun e => by have := Hg.out; have e2 : A = g := e; omega))
      · rw [Nat.mul_zero, gF_zero, HLn.out]
        exact Rep.none n)
    have HB4 : Hid (Below W.heap.size W (w3.setCell ⟨g, 1, none⟩ (.int .i64 0))) := Lib.hid (HB3.out.setCell (p := ⟨g, 1, none⟩) (by have := Hg.out; have := HAe.out; show W.heap.size ≤ g; omega) _)
    have HM : Hid (W.heap.size ≤ g ∧ W.heap.size ≤ A) := Lib.hid (by have := Hg.out; have := HAe.out; omega)
    go_upto_region 8 with fail
    obtain ⟨w4, hw4⟩ : ∃ V, w3.setCell ⟨g, 1, none⟩ (.int .i64 0) = V := ⟨_, rfl⟩
    rw [hw4] at HF4 HB4
    rw [hw4]
    clear hw4 c1 b0 HZ HK3 HB3 HF2 HB2 HRow0
    go_wp2_with fail
    go_loopw [33] (fun iv V => ∃ (k : Nat) (ws' : List Nat), k ≤ N ∧ iv = .int .i64 (k : Int) ∧ Aside0 (FmAt V g A c n (gF hs (4000 * k)) ws') ∧ Aside0 (Below W.heap.size W V)) (fun iv _ => N - (intOf iv).toNat)
    case atStart => exact ⟨0, _, Nat.zero_le _, rfl, ⟨HF4.out⟩, ⟨HB4.out⟩⟩
    case round =>
      obtain ⟨k, ws1, hk, rfl, ⟨hfm⟩, ⟨hb⟩⟩ := hrel
      have HFk := Lib.hid hfm
      have HBk := Lib.hid hb
      clear hfm hb HF4 HB4
      by_cases hlt : k < N
      · have hd := decide_eq_true (show (k : Int) < (N : Int) by omega)
        have hdn := decide_eq_true hlt
        obtain ⟨ad, rfl, hcs⟩ := (HR.out.below HBk.out).2.2 (by omega)
        have ch := hcs k hlt
        obtain ⟨s, hs1⟩ : ∃ s, hs.getD k ByteArray.empty = s := ⟨_, rfl⟩
        rw [hs1] at ch
        have Hs := Lib.hid hs1
        have p1 : (0 ≤ (k : Int)) = True := eq_true (by omega)
        have p2 : ((k : Int) < (N : Int)) = True := eq_true (by omega)
        have hnx : wrap64 ((k : Int) + 1) = (k : Int) + 1 := by have := HSr.out; clear hd p1 p2 ch; unfold wrap64; omega
        have Hlt := Lib.hid hlt
        have Hnx := Lib.hid hnx
        have HNo : Hid (s.size ≠ 512 → ∀ f, ¬ IsH n f hs) := Lib.hid (fun hne f h => by
          apply hne
          have h2 := homesS_at n f (sizeN n) k (by rw [HSe.out]; exact hlt)
          rw [h.2] at h2
          unfold homeAt at h2
          rw [← hs1, h2]
          unfold strOfNums
          simp [ByteArray.size, homeB_length])
        clear hcs hs1 hlt hk
        by_cases h512 : s.size = 512
        · have hl5 : ((s.size : Int) != 512) = false := by rw [h512]; rfl
          have H512 := Lib.hid h512
          clear hnx
          go_wp2_with fail
          clear hd hdn ch p1 p2 hl5 h512
          go_loopw [41] (fun iv V => ∃ (i : Nat) (ws2 : List Nat), i ≤ 4000 ∧ iv = .int .i64 (i : Int) ∧ Aside0 (FmAt V g A c n (gF hs (4000 * k + i)) ws2) ∧ Aside0 (Below W.heap.size W V)) (fun iv _ => 4000 - (intOf iv).toNat)
          case atStart => exact ⟨0, ws1, Nat.zero_le _, rfl, ⟨HFk.out⟩, ⟨HBk.out⟩⟩
          case round =>
            obtain ⟨i, ws2, hi, rfl, ⟨hfm⟩, ⟨hb⟩⟩ := hrel
            have HFi := Lib.hid hfm
            have HBi := Lib.hid hb
            clear hfm hb HFk HBk
            by_cases hlt2 : i < 4000
            · have hd := decide_eq_true (show (i : Int) < 4000 by omega)
              have hdn := decide_eq_true hlt2
              obtain ⟨q, hq⟩ : ∃ q, i / 8 = q := ⟨_, rfl⟩
              obtain ⟨e, he⟩ : ∃ e, i % 8 = e := ⟨_, rfl⟩
              have hx := index_str s q (by rw [H512.out]; omega)
              have hb8 := bit_test8 (byteAt s q) e (byteAt_lt s q)
              have hbit : bitH hs (4000 * k + i) = (byteAt s q).testBit e := by
                unfold bitH homeAt
                rw [show (4000 * k + i) / 4000 = k by omega, show (4000 * k + i) % 4000 = i by omega, Hs.out, hq, he]
              rw [← hbit] at hb8
              obtain ⟨x, hxx⟩ : ∃ x, byteAt s q = x := ⟨_, rfl⟩
              rw [hxx] at hx hb8
              have e1 : wrap64 ((i : Int) / 8) = (q : Int) := by unfold wrap64; omega
              have e1' : wrap64 (Int.tdiv (i : Int) 8) = (q : Int) := by rw [Int.tdiv_eq_ediv_of_nonneg (by omega)]; unfold wrap64; omega
              have e2 : (i : Int) % 8 = (e : Int) := by omega
              have e2' : Int.tmod (i : Int) 8 = (e : Int) := by rw [Int.tmod_eq_emod_of_nonneg (by omega)]; omega
              have q1 : (0 ≤ (e : Int)) = True := eq_true (by omega)
              have q2 : ((e : Int) < 0) = False := eq_false (by omega)
              have hnx2 : wrap64 ((i : Int) + 1) = (i : Int) + 1 := by clear hd e1 e1' e2 e2' q1 q2; unfold wrap64; omega
              have HE8 : Hid (e < 8) := Lib.hid (by omega)
              have hmin : min e 8 = e := Nat.min_eq_left (by have := HE8.out; omega)
              obtain ⟨t, ht⟩ : ∃ t, 4000 * k + i = t := ⟨_, rfl⟩
              have Ht := Lib.hid ht
              have HtS : Hid (t < 4000 * N) := Lib.hid (by have := Hlt.out; omega)
              have e3 : wrap64 ((k : Int) * 4000) = (k : Int) * 4000 := by have := Hlt.out; have := HSr.out; clear hd e1 e1' e2 e2' q1 q2 hnx2; unfold wrap64; omega
              have e4 : wrap64 ((k : Int) * 4000 + (i : Int)) = (t : Int) := by have := Hlt.out; have := HSr.out; clear hd e1 e1' e2 e2' q1 q2 hnx2 e3; unfold wrap64; omega
              rw [ht] at hb8 HFi
              have Hlt2 := Lib.hid hlt2
              have Hnx2 := Lib.hid hnx2
              have HT1 : Hid (t + 1 = 4000 * k + (i + 1)) := Lib.hid (by omega)
              clear hq he hxx hbit ht hlt2 hi hnx2
              cases hbv : bitH hs t with
              | false =>
                rw [hbv] at hb8
                have hb8 : (bits .and .u8 ((x : Int) / 2 ^ e) 1 == 0) = true := hb8
                have HFn : Hid (FmAt wr g A c n (gF hs (4000 * k + (i + 1))) ws2) := Lib.hid (by rw [← HT1.out, gF_same hbv]; exact HFi.out)
                clear hbv e3 e4
                go_wp2
                clear e1 e1' e2 e2' q1 q2 hmin hb8 hx hd hdn
                have hnx2 := Hnx2.out
                go_roundw
                case rel => exact ⟨i + 1, ws2, Hlt2.out, by first | rfl | (rw [hnx2]; rfl), ⟨HFn.out⟩, ⟨HBi.out⟩⟩
                case measure => have h1 := Hlt2.out; first | (rw [hnx2]; simp [intOf]; omega) | (simp [intOf]; omega)
              | true =>
                rw [hbv] at hb8
                have hb8 : (bits .and .u8 ((x : Int) / 2 ^ e) 1 == 0) = false := hb8
                have Hbv := Lib.hid hbv
                clear hbv
                by_cases htn : t < n
                · have hdt := decide_eq_false (show ¬ (n : Int) ≤ (t : Int) by omega)
                  have hdtn := decide_eq_false (show ¬ n ≤ t by omega)
                  have HTu := Lib.hid (turn_calls HFi.out t htn)
                  clear htn
                  go_wp2_with fail
                  refine HTu.out.mono ?_; rintro ee w7 ⟨rfl, ⟨ws3, hf3⟩, ho3⟩
                  have HFn : Hid (FmAt w7 g A c n (gF hs (4000 * k + (i + 1))) ws3) := Lib.hid (by rw [← HT1.out, gF_flip Hbv.out]; exact hf3)
                  have HBn := Lib.hid (Only.below HBi.out ho3 HBi.out.size HM.out.1 HM.out.2)
                  clear hf3 ho3 hb8 hx
                  go_wp2
                  clear e1 e1' e2 e2' q1 q2 hmin hd hdn e3 e4 hdt hdtn
                  have hnx2 := Hnx2.out
                  go_roundw
                  case rel => exact ⟨i + 1, ws3, Hlt2.out, by first | rfl | (rw [hnx2]; rfl), ⟨HFn.out⟩, ⟨HBn.out⟩⟩
                  case measure => have h1 := Hlt2.out; first | (rw [hnx2]; simp [intOf]; omega) | (simp [intOf]; omega)
                · have hdt := decide_eq_true (show (n : Int) ≤ (t : Int) by omega)
                  have hdtn := decide_eq_true (show n ≤ t by omega)
                  have HX : Hid (∀ f, ¬ IsH n f hs) := Lib.hid (fun f h => by
                    have h2 := h.bit t (by rw [HSe.out]; exact HtS.out)
                    rw [Hbv.out, h.1 t (by omega)] at h2
                    cases h2)
                  clear htn
                  go_wp2
                  go_ret2
                  exact ⟨.inr ⟨HX.out, rfl⟩, HBi.out⟩
            · obtain rfl : i = 4000 := by omega
              have hd := decide_eq_false (show ¬ ((4000 : Nat) : Int) < 4000 by decide)
              have HFn : Hid (FmAt wr g A c n (gF hs (4000 * (k + 1))) ws2) := Lib.hid (by rw [show 4000 * (k + 1) = 4000 * k + 4000 by omega]; exact HFi.out)
              have hnx := Hnx.out
              clear hlt2 hi
              go_wp2
              go_roundw
              case rel => exact ⟨k + 1, ws2, Hlt.out, by first | rfl | (rw [hnx]; rfl), ⟨HFn.out⟩, ⟨HBi.out⟩⟩
              case measure => have h1 := Hlt.out; first | (rw [hnx]; simp [intOf]; omega) | (simp [intOf]; omega)
        · have hl5 : ((s.size : Int) != 512) = true := by simp; omega
          have HX := Lib.hid (HNo.out h512)
          clear h512 hnx
          go_wp2
          go_ret2
          exact ⟨.inr ⟨HX.out, rfl⟩, HBk.out⟩
      · obtain rfl : k = N := by omega
        have hd := decide_eq_false (show ¬ (k : Int) < (k : Int) by omega)
        have HHm := Lib.hid (homes_calls HFk.out (HT.out.below HBk.out H1.out) (by have := HBk.out.size; have := H1.out; omega))
        clear hlt hk
        go_wp2_with fail
        refine HHm.out.mono ?_; rintro e w8 ⟨v8, rfl, hs8, hb8⟩
        have HF8 := Lib.hid (HFk.out.below hb8 (Nat.le_refl _))
        have HB8 := Lib.hid (below_step HBk.out hb8)
        have HEq := Lib.hid (equal_calls P k cap hs8 (HR.out.below HB8.out) (by rw [homesS_length, HSe.out]) (by have := HSr.out; omega))
        clear hb8 hs8
        by_cases heq : homesS n (gF hs (4000 * k)) (sizeN n) = hs
        · rw [decide_eq_true heq] at HEq
          have HI : Hid (IsH n (gF hs (4000 * k)) hs) := Lib.hid ⟨HF8.out.rep.out, heq⟩
          clear heq
          go_wp2_with fail
          refine HEq.out.mono ?_; rintro e w9 ⟨rfl, hb9⟩
          have HF9 := Lib.hid (HF8.out.below hb9 (Nat.le_refl _))
          have HB9 := Lib.hid (below_step HB8.out hb9)
          clear hb9
          go_wp2
          go_ret2
          exact ⟨.inl ⟨_, g, A, c, _, HI.out, rfl, HF9.out, HM.out.1, HM.out.2⟩, HB9.out⟩
        · rw [decide_eq_false heq] at HEq
          have HX : Hid (∀ f, ¬ IsH n f hs) := Lib.hid (fun f h => by
            apply heq
            rw [homesS_congr (n := n) (f := gF hs (4000 * k)) (g := f) (sizeN n) (fun x hx => by
              unfold gF
              rw [h.bit x hx, decide_eq_true (by rw [← HSe.out]; exact hx), Bool.true_and]), h.2])
          clear heq
          go_wp2_with fail
          refine HEq.out.mono ?_; rintro e w9 ⟨rfl, hb9⟩
          have HB9 := Lib.hid (below_step HB8.out hb9)
          clear hb9
          go_wp2
          go_ret2
          exact ⟨.inr ⟨HX.out, rfl⟩, HB9.out⟩
  · have hd : ((N : Int) != (S : Int)) = true := by simp; omega
    have HX : Hid (∀ f, ¬ IsH n f hs) := Lib.hid (fun f h => hNS (by rw [← HR.out.1, ← h.2, homesS_length, HSe.out]))
    clear hNS
    go_wp2
    go_ret2
    exact ⟨.inr ⟨HX.out, rfl⟩, HB2.out⟩
end Go.Proofs.YtdjjmmndfbffcaaDoor.FM

namespace Go.Proofs.YtdjjmmndfbffcaaDoor.FM
open Go.RowKit Go.Proofs.YtdjjmmndfbffcaaDoorW.PrintWords Go.Proofs.YtdjjmmndfbffcaaDoorW.PrintLast Go.Proofs.YtdjjmmndfbffcaaDoorW.PrintMore
set_option linter.unusedVariables false
set_option linter.unusedSimpArgs false
theorem IsH.one {n : Nat} {f f2 : Nat → Bool} {hs : List ByteArray} (h : IsH n f hs) (h2 : IsH n f2 hs) : f = f2 := by
  funext x
  by_cases hx : x < n
  · have hs : x < 4000 * sizeN n := by unfold sizeN; omega
    rw [← h.bit x hs, ← h2.bit x hs]
  · rw [h.1 x (by omega), h2.1 x (by omega)]
theorem SR.reads {V : World} {b : Nat} {A : Option Addr} {c N : Nat} {l : List ByteArray} (h : V.ownsRow b 9 1 (.slice A N c) N (encs Value.string l)) : SRd V A N l := own_reads_of' (d := ByteArray.empty) h
end Go.Proofs.YtdjjmmndfbffcaaDoor.FM

namespace Go.Proofs.YtdjjmmndfbffcaaDoor.FM
open Go.RowKit Go.Proofs.YtdjjmmndfbffcaaDoorW.PrintWords Go.Proofs.YtdjjmmndfbffcaaDoorW.PrintLast Go.Proofs.YtdjjmmndfbffcaaDoorW.PrintMore Go.Proofs.YtdjjmmndfbffcaaDoor.CD Go.Proofs.YtdjjmmndfbffcaaDoor.SP
set_option linter.unusedVariables false
set_option linter.unusedSimpArgs false
set_option maxHeartbeats 4000000 in
set_option maxRecDepth 100000 in
theorem rhomes_calls {W : World} {p B c n : Nat} {f : Nat → Bool} (h : RefAt W p B c n f) :
    Calls Tryd.prog 32 #[.pointer (some ⟨p, 0, none⟩)] W fun e w' => ∃ v, e = .returned v ∧ SR w' W.heap.size v (homesS n f (sizeN n)) ∧ Below W.heap.size W w' := by
  have HF := Lib.hid h
  have HNN := Lib.hid h.nn
  obtain ⟨S, hS⟩ : ∃ S, sizeN n = S := ⟨_, rfl⟩
  have HSe := Lib.hid hS
  have HSr : Hid (1 ≤ S ∧ S ≤ 33) := Lib.hid (by have := h.nn; rw [← hS]; unfold sizeN; omega)
  have HSz := Lib.hid (fun V => rsize_calls n HNN.out V)
  rw [hS] at HSz
  clear h hS
  have HS0 : Hid (SR W W.heap.size (.slice none 0 0) (homesS n f 0)) := Lib.hid (own_nil _ _ _ _)
  go_enter Tryd.func32, Tryd.ntmps32
  go_wp2_with fail
  go_loopw [4, 3] (fun iv ov V => ∃ k : Nat, k ≤ S ∧ iv = .int .i64 (k : Int) ∧ Aside0 (SR V W.heap.size ov (homesS n f k)) ∧ Aside0 (Below W.heap.size W V)) (fun iv _ _ => S - (intOf iv).toNat)
  case atStart => exact ⟨0, Nat.zero_le _, rfl, ⟨HS0.out⟩, ⟨Below.refl _ _⟩⟩
  case round =>
    obtain ⟨k, hk, rfl, ⟨hs⟩, ⟨hb⟩⟩ := hrel
    have HSk := Lib.hid hs
    have HBk := Lib.hid hb
    clear hs hb HS0
    have HFk := Lib.hid (HF.out.below HBk.out (Nat.le_refl _))
    have c0 := HFk.out.cell
    have Hk := Lib.hid hk
    have e3 : k < 40 → wrap64 ((k : Int) + 1) = (k : Int) + 1 := by unfold wrap64; omega
    have e3 := e3 (by have := HSr.out; omega)
    by_cases hlt : k < S
    · have hd := decide_eq_true (show (k : Int) < (S : Int) by omega)
      have hdn := decide_eq_true hlt
      have Hlt := Lib.hid hlt
      clear hlt hk
      go_wp2_with fail
      refine (HSz.out _).mono ?_; rintro e w1 ⟨rfl, hb1⟩
      have HF1 := Lib.hid (HFk.out.below hb1 (Nat.le_refl _))
      have HS1 := Lib.hid (HSk.out.below hb1)
      have HB1 := Lib.hid (below_step HBk.out hb1)
      have HHm := Lib.hid (rhome_calls HF1.out k (by rw [HSe.out]; exact Hlt.out))
      clear hb1 c0
      go_wp2_with fail
      refine HHm.out.mono ?_; rintro e w2 ⟨rfl, hb2⟩
      have HS2 := Lib.hid (HS1.out.below hb2)
      have HB2 := Lib.hid (below_step HB1.out hb2)
      have HHome : Hid (homesS n f (k + 1) = homesS n f k ++ [strOfNums (homeB f k)]) := Lib.hid (by unfold homesS; rw [List.range_succ, List.map_append]; rfl)
      obtain ⟨Y, hY⟩ : ∃ Y, strOfNums (homeB f k) = Y := ⟨_, rfl⟩
      rw [hY] at HHome
      rw [hY]
      have hkl : (homesS n f k).length = k := by simp [homesS]
      have HKl := Lib.hid hkl
      clear hb2 hY hkl
      go_wp2_with (at_builtin; refine print_append_of Value.string (w0 := W) W.heap.size rfl (.tmp 19) (.tmp 21) 45 9 (.string ByteArray.empty) 16 rfl Tryd.underlying45 infoStr rfl (by decide) u3 (homesS n f k) Y rfl rfl rfl HS2.out HB2.out HB2.out.size (by have h1 := HKl.out; have h2 := HSr.out; have h3 := Hlt.out; omega) ?_; intro uo Wo2 hoo hbo hgo _; have HSo : Hid (SR Wo2 W.heap.size uo (homesS n f (k + 1))) := Lib.hid (by rw [HHome.out]; exact hoo); have HBo := Lib.hid hbo; clear hoo hbo hgo)
      go_roundw
      case rel => exact ⟨k + 1, Hlt.out, by first | rfl | (rw [e3]; rfl), ⟨HSo.out⟩, ⟨HBo.out⟩⟩
      case measure => have h1 := Hlt.out; first | (rw [e3]; simp [intOf]; omega) | (simp [intOf]; omega)
    · obtain rfl : k = S := by omega
      have hd := decide_eq_false (show ¬ (k : Int) < (k : Int) by omega)
      clear hlt hk
      go_wp2_with fail
      refine (HSz.out _).mono ?_; rintro e w1 ⟨rfl, hb1⟩
      have HS1 := Lib.hid (HSk.out.below hb1)
      have HB1 := Lib.hid (below_step HBk.out hb1)
      clear hb1 c0
      go_wp2
      go_ret
      exact ⟨_, rfl, by rw [HSe.out]; exact HS1.out, HB1.out⟩
end Go.Proofs.YtdjjmmndfbffcaaDoor.FM

namespace Go.Proofs.YtdjjmmndfbffcaaDoor.FM
open Go.RowKit Go.Proofs.YtdjjmmndfbffcaaDoorW.PrintWords Go.Proofs.YtdjjmmndfbffcaaDoorW.PrintLast Go.Proofs.YtdjjmmndfbffcaaDoorW.PrintMore Go.Proofs.YtdjjmmndfbffcaaDoor.CD Go.Proofs.YtdjjmmndfbffcaaDoor.SP
set_option linter.unusedVariables false
set_option linter.unusedSimpArgs false
theorem of_no (n : Int) (h : n < 256 ∨ 131072 < n) (v : Value) (W : World) :
    Calls Tryd.prog 34 #[.int .i64 n, v] W fun e w' => e = .returned (.tuple #[.pointer none, .int .i64 2]) ∧ Below W.heap.size W w' := by
  have HN := Lib.hid (new_no n h W)
  clear h
  go_enter Tryd.func34, Tryd.ntmps34
  go_wp2_with fail
  refine HN.out.mono ?_; rintro e w1 ⟨rfl, hb1⟩
  have HB := Lib.hid hb1
  clear hb1
  go_wp2
  go_ret2
  exact ⟨rfl, HB.out⟩
theorem rof_no (n : Int) (h : n < 256 ∨ 131072 < n) (v : Value) (W : World) :
    Calls Tryd.prog 35 #[.int .i64 n, v] W fun e w' => e = .returned (.tuple #[.pointer none, .int .i64 2]) ∧ Below W.heap.size W w' := by
  have HN := Lib.hid (rnew_no n h W)
  clear h
  go_enter Tryd.func35, Tryd.ntmps35
  go_wp2_with fail
  refine HN.out.mono ?_; rintro e w1 ⟨rfl, hb1⟩
  have HB := Lib.hid hb1
  clear hb1
  go_wp2
  go_ret2
  exact ⟨rfl, HB.out⟩
def mF (hs : List ByteArray) (n i : Nat) : Nat → Bool := fun x => if x < i then bitH hs x else decide (x < n)
theorem mF_zero (hs : List ByteArray) (n : Nat) : mF hs n 0 = upTo n := by funext x; simp [mF, upTo]
theorem mF_all (hs : List ByteArray) (n : Nat) : mF hs n n = gF hs n := by
  funext x
  unfold mF gF
  by_cases h : x < n
  · rw [if_pos h, decide_eq_true h, Bool.true_and]
  · rw [if_neg h, decide_eq_false h, Bool.false_and]
theorem mF_next (hs : List ByteArray) (n i : Nat) : putF (mF hs n i) i (bitH hs i) = mF hs n (i + 1) := by
  funext x
  unfold putF mF
  by_cases h : x = i
  · subst h; rw [if_pos rfl, if_pos (by omega)]
  · rw [if_neg h]
    by_cases h2 : x < i
    · rw [if_pos h2, if_pos (by omega)]
    · rw [if_neg h2, if_neg (by omega)]
theorem bit_mod8 (x e : Nat) : (Int.tmod ((x : Int) / 2 ^ e) 2 == 1) = x.testBit e := by
  rw [Int.tmod_eq_emod_of_nonneg (Int.ediv_nonneg (by omega) (by exact_mod_cast Nat.zero_le _))]
  have h1 : ((x : Int) / 2 ^ e) = ((x / 2 ^ e : Nat) : Int) := by push_cast; rfl
  rw [h1, Nat.testBit_eq_decide_div_mod_eq]
  by_cases h : x / 2 ^ e % 2 = 1
  · rw [decide_eq_true h, beq_iff_eq]; omega
  · rw [decide_eq_false h, beq_eq_false_iff_ne]; omega
theorem IsH.is_g {n : Nat} {f : Nat → Bool} {hs : List ByteArray} (h : IsH n f hs) : f = gF hs n := by
  funext x
  unfold gF
  by_cases hx : x < n
  · rw [decide_eq_true hx, Bool.true_and, h.bit x (by unfold sizeN; omega)]
  · rw [decide_eq_false hx, Bool.false_and, h.1 x (by omega)]
theorem loop_eq22 (s : ByteArray) : ∀ n i (r : List UInt8), s.size - i = n → ByteArray.toList.loop s i r = r.reverse ++ s.data.toList.drop i := by
  intro n
  induction n with
  | zero =>
    intro i r h
    unfold ByteArray.toList.loop
    have hs : s.data.toList.length = s.size := by rw [Array.length_toList]; rfl
    rw [if_neg (by omega), List.drop_eq_nil_of_le (by omega), List.append_nil]
  | succ n ih =>
    intro i r h
    unfold ByteArray.toList.loop
    have hi : i < s.size := by omega
    rw [if_pos hi, ih (i + 1) _ (by omega)]
    have hi' : i < s.data.toList.length := by rw [Array.length_toList]; exact hi
    rw [List.drop_eq_getElem_cons hi']
    simp [ByteArray.get!, hi]
theorem toList_inj22 {s t : ByteArray} (h : s.toList = t.toList) : s = t := by
  have h1 := loop_eq22 s s.size 0 [] rfl
  have h2 := loop_eq22 t t.size 0 [] rfl
  have h3 : s.data.toList = t.data.toList := by
    have e1 : s.toList = s.data.toList := by simpa [ByteArray.toList] using h1
    have e2 : t.toList = t.data.toList := by simpa [ByteArray.toList] using h2
    rw [← e1, ← e2, h]
  exact ByteArray.ext (Array.toList_inj.1 h3)
theorem ref_ar (i n k a q e : Nat) (hi : i < n) (hn : n ≤ 131072) (hk : i / 4000 = k) (ha : i % 4000 = a) (hq : a / 8 = q) (he : a % 8 = e) :
    (wrap64 ((i : Int) / 4000) = (k : Int) ∧ wrap64 (Int.tdiv (i : Int) 4000) = (k : Int) ∧ (i : Int) % 4000 = (a : Int) ∧ Int.tmod (i : Int) 4000 = (a : Int) ∧ wrap64 ((a : Int) / 8) = (q : Int) ∧ wrap64 (Int.tdiv (a : Int) 8) = (q : Int)) ∧
    (a : Int) % 8 = (e : Int) ∧ Int.tmod (a : Int) 8 = (e : Int) ∧ (0 ≤ (e : Int)) = True ∧ ((e : Int) < 0) = False ∧ min e 8 = e ∧ q < 512 := by
  have h1 : wrap64 ((i : Int) / 4000) = (k : Int) := by clear ha hq he; unfold wrap64; omega
  have h2 : wrap64 ((a : Int) / 8) = (q : Int) := by clear h1; unfold wrap64; omega
  have h3 : (i : Int) % 4000 = (a : Int) := by clear h1 h2; omega
  have h4 : (a : Int) % 8 = (e : Int) := by clear h1 h2; omega
  refine ⟨⟨h1, ?_, h3, ?_, h2, ?_⟩, h4, ?_, eq_true (by omega), eq_false (by clear h1 h2; omega), Nat.min_eq_left (by clear h1 h2; omega), by clear h1 h2; omega⟩
  · rw [Int.tdiv_eq_ediv_of_nonneg (by omega)]; exact h1
  · rw [Int.tmod_eq_emod_of_nonneg (by omega)]; exact h3
  · rw [Int.tdiv_eq_ediv_of_nonneg (by omega)]; exact h2
  · rw [Int.tmod_eq_emod_of_nonneg (by omega)]; exact h4
def ROffed (W : World) (n : Nat) (hs : List ByteArray) (e : Ending) (w' : World) : Prop :=
  ((∃ (f : Nat → Bool) (p B c : Nat), IsH n f hs ∧ e = .returned (.tuple #[.pointer (some ⟨p, 0, none⟩), .int .i64 0]) ∧ RefAt w' p B c n f ∧ W.heap.size ≤ p ∧ W.heap.size ≤ B) ∨
    (∀ f, ¬ IsH n f hs) ∧ e = .returned (.tuple #[.pointer none, .int .i64 4])) ∧ Below W.heap.size W w'
set_option maxHeartbeats 8000000 in
set_option maxRecDepth 100000 in
theorem rof_calls (n : Nat) (hn : 256 ≤ n ∧ n ≤ 131072) (P : Option Addr) (N cap : Nat) (hs : List ByteArray) (W : World) (hr : SRd W P N hs) :
    Calls Tryd.prog 35 #[.int .i64 (n : Int), .slice P N cap] W fun e w' => ROffed W n hs e w' := by
  have HNN := Lib.hid hn
  have HR := Lib.hid hr
  have HNw := Lib.hid (rnew_calls n hn W)
  obtain ⟨S, hS⟩ : ∃ S, sizeN n = S := ⟨_, rfl⟩
  have HSe := Lib.hid hS
  have HSr : Hid (1 ≤ S ∧ S ≤ 33 ∧ n ≤ 4000 * S ∧ ∀ i, i < n → i / 4000 < S) := Lib.hid (by rw [← hS]; unfold sizeN; exact ⟨by omega, by omega, by omega, fun i hi => by omega⟩)
  have HSz := Lib.hid (fun V => rsize_calls n hn V)
  rw [hS] at HSz
  clear hn hr hS
  go_enter Tryd.func35, Tryd.ntmps35
  go_wp2_with fail
  refine HNw.out.mono ?_; rintro e w1 ⟨⟨p, B, c, rfl, hf1, hp1, hB1⟩, hb1⟩
  have HF1 := Lib.hid hf1
  have HB1 := Lib.hid hb1
  have HM : Hid (W.heap.size ≤ p ∧ W.heap.size ≤ B) := Lib.hid ⟨hp1, hB1⟩
  clear hf1 hb1 hp1 hB1
  go_wp2_with fail
  refine (HSz.out _).mono ?_; rintro e w2 ⟨rfl, hb2⟩
  have HF2 := Lib.hid (HF1.out.below hb2 (Nat.le_refl _))
  have HB2 := Lib.hid (below_step HB1.out hb2)
  clear hb2 HF1 HB1
  by_cases hNS : N = S
  · subst hNS
    go_wp2_with fail
    go_loopw [8] (fun iv V => ∃ (i : Nat), i ≤ n ∧ iv = .int .i64 (i : Int) ∧ Aside0 (RefAt V p B c n (mF hs n i)) ∧ Aside0 (Below W.heap.size W V)) (fun iv _ => n - (intOf iv).toNat)
    case atStart => exact ⟨0, Nat.zero_le _, rfl, ⟨by rw [mF_zero]; first | exact HF2.out | exact HF2.out.drew⟩, ⟨by first | exact HB2.out | exact below_drew HB2.out⟩⟩
    case round =>
      obtain ⟨i, hi, rfl, ⟨hfm⟩, ⟨hb⟩⟩ := hrel
      have HFi := Lib.hid hfm
      have HBi := Lib.hid hb
      clear hfm hb HF2 HB2
      by_cases hlt : i < n
      · have hd := decide_eq_true (show (i : Int) < (n : Int) by omega)
        have hdn := decide_eq_true hlt
        have hkN := HSr.out.2.2.2 i hlt
        obtain ⟨k, hk⟩ : ∃ k, i / 4000 = k := ⟨_, rfl⟩
        have Hk := Lib.hid hk
        rw [hk] at hkN
        obtain ⟨ad, rfl, hcs⟩ := (HR.out.below HBi.out).2.2 (by omega)
        have ch := hcs k hkN
        obtain ⟨s, hs1⟩ : ∃ s, hs.getD k ByteArray.empty = s := ⟨_, rfl⟩
        rw [hs1] at ch
        have Hs := Lib.hid hs1
        have p1 : (0 ≤ (k : Int)) = True := eq_true (by omega)
        have p2 : ((k : Int) < (N : Int)) = True := eq_true (by omega)
        have p3 : (0 ≤ (i : Int)) = True := eq_true (by omega)
        have p4 : ((i : Int) < (n : Int)) = True := eq_true (by omega)
        have har := ref_ar i n k (i % 4000) (i % 4000 / 8) (i % 4000 % 8) hlt HNN.out.2 hk rfl rfl rfl
        have hnx : wrap64 ((i : Int) + 1) = (i : Int) + 1 := by have := HNN.out; clear hd p1 p2 p3 p4 ch har; unfold wrap64; omega
        have Hlt := Lib.hid hlt
        have Hnx := Lib.hid hnx
        have HNo : Hid (s.size ≠ 512 → ∀ f, ¬ IsH n f hs) := Lib.hid (fun hne f h => by
          apply hne
          have h2 := homesS_at n f (sizeN n) k (by rw [HSe.out]; exact hkN)
          rw [h.2] at h2
          unfold homeAt at h2
          rw [← hs1, h2]
          unfold strOfNums
          simp [ByteArray.size, homeB_length])
        by_cases h512 : s.size = 512
        · have hl5 : ((s.size : Int) != 512) = false := by rw [h512]; rfl
          obtain ⟨a, ha⟩ : ∃ a, i % 4000 = a := ⟨_, rfl⟩
          obtain ⟨q, hq⟩ : ∃ q, a / 8 = q := ⟨_, rfl⟩
          obtain ⟨e, he⟩ : ∃ e, a % 8 = e := ⟨_, rfl⟩
          have hx := index_str s q (by rw [h512, ← hq, ← ha]; clear har hnx; omega)
          have hb8 := bit_mod8 (byteAt s q) e
          have hbit : bitH hs i = (byteAt s q).testBit e := by
            unfold bitH homeAt
            rw [hk, ha, Hs.out, hq, he]
          rw [← hbit] at hb8
          have Hx8 : Hid (byteAt s q < 256) := Lib.hid (byteAt_lt s q)
          obtain ⟨x, hxx⟩ : ∃ x, byteAt s q = x := ⟨_, rfl⟩
          rw [hxx] at hx hb8 Hx8
          rw [ha, hq, he] at har
          obtain ⟨⟨hq1, hq2, e0, e0', e1, e1'⟩, e2, e2', q1, q2, hmin, hq5⟩ := har
          have c0 := HFi.out.cell
          obtain ⟨cw, fw⟩ := OwnB.at_ HFi.out.row i hlt
          obtain ⟨bv, hbv⟩ : ∃ b, bitH hs i = b := ⟨_, rfl⟩
          have Hbv := Lib.hid hbv
          rw [hbv] at hb8
          have HFn : Hid (RefAt (wr.setCell ⟨B, i, none⟩ (.bool bv)).drew p B c n (mF hs n (i + 1))) := Lib.hid (by
            rw [← mF_next, Hbv.out]
            refine RefAt.drew ⟨?_, OwnB.store HFi.out.row i bv, HFi.out.ne, fun j hj => ?_, HFi.out.nn⟩
            · rw [Below.heap_setCell wr _ _ p (fun e => HFi.out.ne (by have e2 : p = B := e; exact e2))]; exact HFi.out.blk
            · unfold putF
              rw [if_neg (show ¬ j = i from fun e => Nat.not_lt.2 (e ▸ hj) hlt)]
              exact HFi.out.out j hj)
          have HBn : Hid (Below W.heap.size W (wr.setCell ⟨B, i, none⟩ (.bool bv)).drew) := Lib.hid (below_drew (HBi.out.setCell (p := ⟨B, i, none⟩) HM.out.2 _))
          clear hcs hs1 hlt hi hk hkN ha hq he hxx hbit hbv h512 hnx
          go_upto_region 13 with fail
          refine start_ (n := 16) (S := fun w' => w'.cell? ⟨p, 0, none⟩ = some (.slice (some ⟨B, 0, none⟩) n c)) (ds := [15]) #[false, false, false, false, false, false, false, false, false, false, false, false, false, false, false, false] (by kernel_rfl) rfl rfl (c0) (fun hHeld => ?_)
          refine pure_ (i := 0) (N := some 41) (v := ?_) (a' := ?_) #[true, false, false, false, false, false, false, false, false, false, false, false, false, false, false, false] rfl rfl (by kernel_rfl) (fun _ _ _ h => h) (Or.inl ⟨by rfl, ?_⟩) ?_ ?_
          rotate_left
          · intro w'
            go_simp
            with_reducible rfl
          rotate_left
          · simp only [Act.put, List.setIfInBounds_toArray, List.set_cons_zero, List.set_cons_succ, i64_w, i32_w]
            rfl
          refine pure_ (i := 1) (N := some 42) (v := ?_) (a' := ?_) #[true, true, false, false, false, false, false, false, false, false, false, false, false, false, false, false] rfl rfl (by kernel_rfl) (fun _ _ _ h => h) (Or.inl ⟨by rfl, ?_⟩) ?_ ?_
          rotate_left
          · intro w'
            go_simp
            with_reducible rfl
          rotate_left
          · simp only [Act.put, List.setIfInBounds_toArray, List.set_cons_zero, List.set_cons_succ, i64_w, i32_w]
            rfl
          refine pure_ (i := 2) (N := some 43) (v := ?_) (a' := ?_) #[true, true, true, false, false, false, false, false, false, false, false, false, false, false, false, false] rfl rfl (by kernel_rfl) (fun _ _ _ h => h) (Or.inl ⟨by rfl, ?_⟩) ?_ ?_
          rotate_left
          · intro w'
            go_simp
            with_reducible rfl
          rotate_left
          · simp only [Act.put, List.setIfInBounds_toArray, List.set_cons_zero, List.set_cons_succ, i64_w, i32_w]
            rfl
          refine pure_ (i := 4) (N := some 45) (v := ?_) (a' := ?_) #[true, true, true, false, true, false, false, false, false, false, false, false, false, false, false, false] rfl rfl (by kernel_rfl) (fun _ _ _ h => h) (Or.inl ⟨by rfl, ?_⟩) ?_ ?_
          rotate_left
          · intro w'
            go_simp
            with_reducible rfl
          rotate_left
          · simp only [Act.put, List.setIfInBounds_toArray, List.set_cons_zero, List.set_cons_succ, i64_w, i32_w]
            rfl
          refine pure_ (i := 5) (N := some 46) (v := ?_) (a' := ?_) #[true, true, true, false, true, true, false, false, false, false, false, false, false, false, false, false] rfl rfl (by kernel_rfl) (fun _ _ _ h => h) (Or.inl ⟨by rfl, ?_⟩) ?_ ?_
          rotate_left
          · intro w'
            go_simp
            with_reducible rfl
          rotate_left
          · simp only [Act.put, List.setIfInBounds_toArray, List.set_cons_zero, List.set_cons_succ, i64_w, i32_w]
            rfl
          refine pure_ (i := 6) (N := some 47) (v := ?_) (a' := ?_) #[true, true, true, false, true, true, true, false, false, false, false, false, false, false, false, false] rfl rfl (by kernel_rfl) (fun _ _ _ h => h) (Or.inl ⟨by rfl, ?_⟩) ?_ ?_
          rotate_left
          · intro w'
            go_simp
            with_reducible rfl
          rotate_left
          · simp only [Act.put, List.setIfInBounds_toArray, List.set_cons_zero, List.set_cons_succ, i64_w, i32_w]
            rfl
          refine pure_ (i := 7) (N := some 48) (v := ?_) (a' := ?_) #[true, true, true, false, true, true, true, true, false, false, false, false, false, false, false, false] rfl rfl (by kernel_rfl) (fun _ _ _ h => h) (Or.inl ⟨by rfl, ?_⟩) ?_ ?_
          rotate_left
          · intro w'
            go_simp
            with_reducible rfl
          rotate_left
          · simp only [Act.put, List.setIfInBounds_toArray, List.set_cons_zero, List.set_cons_succ, i64_w, i32_w]
            rfl
          refine pure_ (i := 9) (N := some 50) (v := ?_) (a' := ?_) #[true, true, true, false, true, true, true, true, false, true, false, false, false, false, false, false] rfl rfl (by kernel_rfl) (fun _ _ _ h => h) (Or.inl ⟨by rfl, ?_⟩) ?_ ?_
          rotate_left
          · intro w'
            go_simp
            with_reducible rfl
          rotate_left
          · simp only [Act.put, List.setIfInBounds_toArray, List.set_cons_zero, List.set_cons_succ, i64_w, i32_w]
            rfl
          refine pure_ (i := 10) (N := some 51) (v := ?_) (a' := ?_) #[true, true, true, false, true, true, true, true, false, true, true, false, false, false, false, false] rfl rfl (by kernel_rfl) (fun _ _ _ h => h) (Or.inl ⟨by rfl, ?_⟩) ?_ ?_
          rotate_left
          · intro w'
            go_simp
            with_reducible rfl
          rotate_left
          · simp only [Act.put, List.setIfInBounds_toArray, List.set_cons_zero, List.set_cons_succ, i64_w, i32_w]
            rfl
          refine take_ (i := 3) (N := some 44) (v := ?_) (a' := ?_) #[true, true, true, true, true, true, true, true, false, true, true, false, false, false, false, false] rfl rfl (by kernel_rfl) (fun _ _ _ h => h) (Or.inl ⟨by rfl, ?_⟩) hHeld ?_ ?_
          rotate_left
          · intro w' s0
            go_simp
            with_reducible rfl
          rotate_left
          · simp only [Act.put, List.setIfInBounds_toArray, List.set_cons_zero, List.set_cons_succ, i64_w, i32_w]
            rfl
          refine take_ (i := 8) (N := some 49) (v := ?_) (a' := ?_) #[true, true, true, true, true, true, true, true, true, true, true, false, false, false, false, false] rfl rfl (by kernel_rfl) (fun _ _ _ h => h) (Or.inl ⟨by rfl, ?_⟩) hHeld ?_ ?_
          rotate_left
          · intro w' s0
            go_simp
            with_reducible rfl
          rotate_left
          · simp only [Act.put, List.setIfInBounds_toArray, List.set_cons_zero, List.set_cons_succ, i64_w, i32_w]
            rfl
          refine pure_ (i := 11) (N := some 52) (v := ?_) (a' := ?_) #[true, true, true, true, true, true, true, true, true, true, true, true, false, false, false, false] rfl rfl (by kernel_rfl) (fun _ _ _ h => h) (Or.inl ⟨by rfl, ?_⟩) ?_ ?_
          rotate_left
          · intro w'
            go_simp
            with_reducible rfl
          rotate_left
          · simp only [Act.put, List.setIfInBounds_toArray, List.set_cons_zero, List.set_cons_succ, i64_w, i32_w]
            rfl
          refine pure_ (i := 12) (N := some 53) (v := ?_) (a' := ?_) #[true, true, true, true, true, true, true, true, true, true, true, true, true, false, false, false] rfl rfl (by kernel_rfl) (fun _ _ _ h => h) (Or.inl ⟨by rfl, ?_⟩) ?_ ?_
          rotate_left
          · intro w'
            go_simp
            with_reducible rfl
          rotate_left
          · simp only [Act.put, List.setIfInBounds_toArray, List.set_cons_zero, List.set_cons_succ, i64_w, i32_w]
            rfl
          refine pure_ (i := 13) (N := some 54) (v := ?_) (a' := ?_) #[true, true, true, true, true, true, true, true, true, true, true, true, true, true, false, false] rfl rfl (by kernel_rfl) (fun _ _ _ h => h) (Or.inl ⟨by rfl, ?_⟩) ?_ ?_
          rotate_left
          · intro w'
            go_simp
            with_reducible rfl
          rotate_left
          · simp only [Act.put, List.setIfInBounds_toArray, List.set_cons_zero, List.set_cons_succ, i64_w, i32_w]
            rfl
          refine pure_ (i := 14) (N := some 55) (v := ?_) (a' := ?_) #[true, true, true, true, true, true, true, true, true, true, true, true, true, true, true, false] rfl rfl (by kernel_rfl) (fun _ _ _ h => h) (Or.inl ⟨by rfl, ?_⟩) ?_ ?_
          rotate_left
          · intro w'
            go_simp
            with_reducible rfl
          rotate_left
          · simp only [Act.put, List.setIfInBounds_toArray, List.set_cons_zero, List.set_cons_succ, i64_w, i32_w]
            rfl
          refine last_ (i := 15) (N := none) #[true, true, true, true, true, true, true, true, true, true, true, true, true, true, true, true] rfl rfl (by kernel_rfl) (by decide) (fun K hK => ?_)
          refine skip_ (w1 := ?_) (by rfl) rfl ?_ ?_
          rotate_left
          · go_simp
            rfl
          refine hK.out _ _ ?_
          clear hK K
          refine done_ (by kernel_rfl) ?_
          try rw [hb8]
          obtain ⟨W6, hW6⟩ : ∃ V, (wr.setCell ⟨B, i, none⟩ (.bool bv)).drew = V := ⟨_, rfl⟩
          rw [hW6] at HFn HBn
          rw [hW6]
          clear hW6 e0 e0' e1 e1' e2 e2' q1 q2 hmin hb8 hx hd hdn c0 cw fw p1 p2 p3 p4 ch hq1 hq2 hl5 hq5
          have hnx := Hnx.out
          go_wp2
          go_roundw
          case rel => exact ⟨i + 1, Hlt.out, by first | rfl | (rw [hnx]; rfl), ⟨HFn.out⟩, ⟨HBn.out⟩⟩
          case measure => have h1 := Hlt.out; first | (rw [hnx]; simp [intOf]; omega) | (simp [intOf]; omega)
        · have hl5 : ((s.size : Int) != 512) = true := by simp; omega
          have HX := Lib.hid (HNo.out h512)
          obtain ⟨⟨hq1, hq2, _⟩, _⟩ := har
          clear hcs hs1 hlt hi hk hkN h512 hnx
          go_wp2_with fail
          go_ret2
          exact ⟨.inr ⟨HX.out, rfl⟩, HBi.out⟩
      · obtain rfl : i = n := by omega
        have hd := decide_eq_false (show ¬ (i : Int) < (i : Int) by omega)
        rw [mF_all] at HFi
        clear hlt hi
        go_wp2_with fail
        clear hd
        go_loopw [11] (fun iv V => ∃ (k : Nat), k ≤ N ∧ iv = .int .i64 (k : Int) ∧ Aside0 (∀ j, j < k → strOfNums (homeB (gF hs i) j) = homeAt hs j) ∧ Aside0 (RefAt V p B c i (gF hs i)) ∧ Aside0 (Below W.heap.size W V)) (fun iv _ => N - (intOf iv).toNat)
        case atStart => exact ⟨0, Nat.zero_le _, rfl, ⟨fun j hj => by omega⟩, ⟨HFi.out⟩, ⟨HBi.out⟩⟩
        case round =>
          obtain ⟨k, hk, rfl, ⟨hsame⟩, ⟨hfm⟩, ⟨hb⟩⟩ := hrel
          have HSa := Lib.hid hsame
          have HFk := Lib.hid hfm
          have HBk := Lib.hid hb
          clear hsame hfm hb HFi HBi
          by_cases hlt : k < N
          · have hd := decide_eq_true (show (k : Int) < (N : Int) by omega)
            have hdn := decide_eq_true hlt
            have HHm := Lib.hid (rhome_calls HFk.out k (by rw [HSe.out]; exact hlt))
            have hnx : wrap64 ((k : Int) + 1) = (k : Int) + 1 := by have := HSr.out.2.1; clear hd; unfold wrap64; omega
            obtain ⟨Y, hY⟩ : ∃ Y, strOfNums (homeB (gF hs i) k) = Y := ⟨_, rfl⟩
            have HYe := Lib.hid hY
            rw [hY] at HHm
            have Hlt := Lib.hid hlt
            have Hnx := Lib.hid hnx
            clear hk hY hlt hnx
            go_wp2_with fail
            refine HHm.out.mono ?_; rintro e w3 ⟨rfl, hb3⟩
            have HF3 := Lib.hid (HFk.out.below hb3 (Nat.le_refl _))
            have HB3 := Lib.hid (below_step HBk.out hb3)
            have hlt := Hlt.out
            obtain ⟨ad, rfl, hcs⟩ := (HR.out.below HB3.out).2.2 (by omega)
            have ch := hcs k hlt
            obtain ⟨s, hs1⟩ : ∃ s, hs.getD k ByteArray.empty = s := ⟨_, rfl⟩
            rw [hs1] at ch
            have Hs : Hid (homeAt hs k = s) := Lib.hid hs1
            have p1 : (0 ≤ (k : Int)) = True := eq_true (by omega)
            have p2 : ((k : Int) < (N : Int)) = True := eq_true (by omega)
            clear hcs hs1 hb3 hlt
            by_cases hys : Y = s
            · have hyd : (Y.toList == s.toList) = true := by rw [hys]; exact beq_self_eq_true _
              have hyd2 := decide_eq_true hys
              have HSn : Hid (∀ j, j < k + 1 → strOfNums (homeB (gF hs i) j) = homeAt hs j) := Lib.hid (fun j hj => by
                by_cases h : j = k
                · rw [h, HYe.out, Hs.out, hys]
                · exact HSa.out j (by omega))
              have Hys := Lib.hid hys
              clear hys
              go_wp2_with fail
              have hnx := Hnx.out
              clear p1 p2 ch hd hdn hyd hyd2
              go_roundw
              case rel => exact ⟨k + 1, Hlt.out, by first | rfl | (rw [hnx]; rfl), ⟨HSn.out⟩, ⟨by first | exact HF3.out | exact HF3.out.drew⟩, ⟨by first | exact HB3.out | exact below_drew HB3.out⟩⟩
              case measure => have h1 := Hlt.out; first | (rw [hnx]; simp [intOf]; omega) | (simp [intOf]; omega)
            · have hyd : (Y.toList == s.toList) = false := beq_eq_false_iff_ne.2 (fun e => hys (toList_inj22 e))
              have hyd2 := decide_eq_false hys
              have HX : Hid (∀ f, ¬ IsH i f hs) := Lib.hid (fun f h => by
                have hg := h.is_g
                have h2 := homesS_at i f (sizeN i) k (by rw [HSe.out]; exact Hlt.out)
                rw [h.2, Hs.out, hg, HYe.out] at h2
                exact hys h2.symm)
              clear hys
              go_wp2_with fail
              go_ret2
              exact ⟨.inr ⟨HX.out, rfl⟩, by first | exact HB3.out | exact below_drew HB3.out⟩
          · obtain rfl : k = N := by omega
            have hd := decide_eq_false (show ¬ (k : Int) < (k : Int) by omega)
            have HI : Hid (IsH i (gF hs i) hs) := Lib.hid ⟨HFk.out.out, by
              have hl := HR.out.1
              rw [HSe.out]
              apply List.ext_getElem
              · rw [homesS_length]; exact hl.symm
              · intro j h1 h2
                have h3 := homesS_at i (gF hs i) k j (by rw [homesS_length] at h1; exact h1)
                have h4 := HSa.out j (by rw [homesS_length] at h1; exact h1)
                rw [h4] at h3
                unfold homeAt at h3
                rw [List.getD_eq_getElem?_getD, List.getD_eq_getElem?_getD, List.getElem?_eq_getElem h1, List.getElem?_eq_getElem h2] at h3
                exact h3⟩
            clear hlt hk
            go_wp2_with fail
            go_ret2
            exact ⟨.inl ⟨gF hs i, p, B, c, HI.out, rfl, HFk.out, HM.out.1, HM.out.2⟩, HBk.out⟩
  · have hd : ((N : Int) != (S : Int)) = true := bne_iff_ne.2 (by omega)
    have HX : Hid (∀ f, ¬ IsH n f hs) := Lib.hid (fun f h => by
      have h2 := congrArg List.length h.2
      rw [homesS_length, HSe.out] at h2
      exact hNS (by have := HR.out.1; omega))
    have hd2 := decide_eq_false (show ¬ N = S from hNS)
    clear hNS
    go_wp2_with fail
    go_ret2
    exact ⟨.inr ⟨HX.out, rfl⟩, HB2.out⟩
end Go.Proofs.YtdjjmmndfbffcaaDoor.FM

namespace Go.Proofs.YtdjjmmndfbffcaaDoor.FM
open Go.RowKit Go.Proofs.YtdjjmmndfbffcaaDoorW.PrintWords Go.Proofs.YtdjjmmndfbffcaaDoorW.PrintLast Go.Proofs.YtdjjmmndfbffcaaDoorW.PrintMore
set_option linter.unusedVariables false
set_option linter.unusedSimpArgs false
structure DoAt (W : World) (a : Addr) (wh x : Int) (P : Option Addr) (M c : Nat) (l : List Int) : Prop where
  c0 : W.cell? a = some (.int .i64 wh)
  c1 : W.cell? ⟨a.block, a.off + 1, none⟩ = some (.int .i64 x)
  c2 : W.cell? ⟨a.block, a.off + 2, none⟩ = some (.slice P M c)
  le : M ≤ c
  reads : ReadsInt W .i64 P M l
theorem DoAt.below {W W' : World} {a : Addr} {wh x : Int} {P : Option Addr} {M c : Nat} {l : List Int} (h : DoAt W a wh x P M c l) (hb : Below W.heap.size W W') : DoAt W' a wh x P M c l :=
  ⟨pw_cell_below hb h.c0, pw_cell_below hb h.c1, pw_cell_below hb h.c2, h.le, h.reads.below hb⟩
def Dos (W : World) (A : Option Addr) (N : Nat) : Prop := ∀ j, j < N → ∃ ad wh x P M c l, A = some ad ∧ DoAt W (ad.add (j * 3)) wh x P M c l
theorem Dos.below {W W' : World} {A : Option Addr} {N : Nat} (h : Dos W A N) (hb : Below W.heap.size W W') : Dos W' A N := fun j hj => by
  obtain ⟨ad, wh, x, P, M, c, l, h1, h2⟩ := h j hj
  exact ⟨ad, wh, x, P, M, c, l, h1, h2.below hb⟩
def TypeAt (W : World) (k : Nat) (t : TypeId) : Prop := ∃ cs fz, W.heap[k]? = some (.cells cs t fz)
theorem TypeAt.ne {W : World} {k k' : Nat} {t t' : TypeId} (h : TypeAt W k t) (h' : TypeAt W k' t') (hne : t ≠ t') : k ≠ k' := fun e => by
  obtain ⟨cs, fz, h1⟩ := h
  obtain ⟨cs', fz', h2⟩ := h'
  rw [e, h2] at h1
  injection h1 with h1
  injection h1 with _ h1
  exact hne h1.symm
theorem own_typeAt {W : World} {base n : Nat} {e : TypeId} {size : Nat} {v : Value} {xs : List Value} (h : W.ownsRow base e size v n xs) (k : Nat) (hk : v.ownBlock = some k) : TypeAt W k e := by
  rcases h.2 with ⟨h', _⟩ | ⟨g', cap', cur, h', _, hh, _⟩
  · rw [h'] at hk; cases hk
  · rw [h'] at hk
    have : g' = k := by injection hk
    rw [← this]
    exact ⟨_, _, hh⟩
structure PS (base : Nat) (b V : World) (g A c n : Nat) (f : Nat → Bool) (ws : List Nat) (p B c' : Nat) (lv : Value) (ll : List Int) : Prop where
  m : FmAt V g A c n f ws
  r : RefAt V p B c' n f
  last : V.ownsRow base 3 1 lv ll.length (nums .i64 ll)
  few : ll.length ≤ 131072
  below : Below base b V
  bases : base ≤ g ∧ base ≤ A ∧ base ≤ p ∧ base ≤ B ∧ base ≤ b.heap.size ∧ b.heap.size ≤ V.heap.size
theorem PS.tys {base : Nat} {b V : World} {g A c n : Nat} {f : Nat → Bool} {ws : List Nat} {p B c' : Nat} {lv : Value} {ll : List Int} (h : PS base b V g A c n f ws p B c' lv ll) :
    TypeAt V g 54 ∧ TypeAt V A 56 ∧ TypeAt V p 61 ∧ TypeAt V B 4 := ⟨⟨_, _, h.m.blk⟩, own_typeAt h.m.row A rfl, ⟨_, _, h.r.blk⟩, own_typeAt h.r.row B rfl⟩
theorem PS.under {base : Nat} {b V V' : World} {g A c n : Nat} {f : Nat → Bool} {ws : List Nat} {p B c' : Nat} {lv : Value} {ll : List Int} (h : PS base b V g A c n f ws p B c' lv ll) (hb : Below V.heap.size V V') : PS base b V' g A c n f ws p B c' lv ll :=
  ⟨h.m.below hb (Nat.le_refl _), h.r.below hb (Nat.le_refl _), pw_own_below h.last hb, h.few, ⟨hb.os.trans h.below.os, hb.tape.trans h.below.tape, hb.output.trans h.below.output, Nat.le_trans h.below.size hb.size, fun k hk => (hb.block k (by have := h.bases; omega)).trans (h.below.block k hk)⟩, by have := h.bases; have := hb.size; omega⟩
theorem PS.drew {base : Nat} {b V : World} {g A c n : Nat} {f : Nat → Bool} {ws : List Nat} {p B c' : Nat} {lv : Value} {ll : List Int} (h : PS base b V g A c n f ws p B c' lv ll) : PS base b V.drew g A c n f ws p B c' lv ll := h.under (below_drew (Below.refl _ _))
structure Keep (V V' : World) : Prop where
  row : ∀ {base : Nat} {v : Value} {n : Nat} {xs : List Value}, V.ownsRow base 3 1 v n xs → V'.ownsRow base 3 1 v n xs
  blk : ∀ {X : Nat} {cs : Array Value}, V.heap[X]? = some (.cells cs 41 (0, 0)) → V'.heap[X]? = some (.cells cs 41 (0, 0))
theorem Keep.trans {a b c : World} (h : Keep a b) (k : Keep b c) : Keep a c := ⟨fun r => k.row (h.row r), fun r => k.blk (h.blk r)⟩
theorem Keep.under {V V' : World} (hb : Below V.heap.size V V') : Keep V V' := ⟨fun r => pw_own_below r hb, fun r => blk_below r hb⟩
theorem Only.keep {g A : Nat} {V V' : World} {t t' : TypeId} (o : Only g A V V') (hg : TypeAt V g t) (hA : TypeAt V A t') (h1 : 3 ≠ t) (h2 : 3 ≠ t') (h3 : 41 ≠ t) (h4 : 41 ≠ t') : Keep V V' :=
  ⟨fun r => own_move r (fun k hk => o.block k (own_lt r k hk) ((own_typeAt r k hk).ne hg h1) ((own_typeAt r k hk).ne hA h2)), fun {X cs} r => (o.block X (blk_lt r) (TypeAt.ne ⟨_, _, r⟩ hg h3) (TypeAt.ne ⟨_, _, r⟩ hA h4)).trans r⟩
theorem PS.onM {base : Nat} {b V V' : World} {g A c n : Nat} {f f' : Nat → Bool} {ws ws' : List Nat} {p B c' : Nat} {lv : Value} {ll : List Int} (h : PS base b V g A c n f ws p B c' lv ll) (hm : FmAt V' g A c n f' ws') (ho : Only g A V V') :
    RefAt V' p B c' n f ∧ Keep V V' ∧ Below base b V' := by
  obtain ⟨tg, tA, tp, tB⟩ := h.tys
  have hb := h.bases
  exact ⟨h.r.only ho (tp.ne tg (by decide)) (tp.ne tA (by decide)) (tB.ne tg (by decide)) (tB.ne tA (by decide)), ho.keep tg tA (by decide) (by decide) (by decide) (by decide), Only.below h.below ho (by omega) (by omega) (by omega)⟩
theorem PS.both {base : Nat} {b V V1 V2 : World} {g A c n : Nat} {f f1 : Nat → Bool} {ws ws1 : List Nat} {p B c' B2 c2 : Nat} {lv : Value} {ll : List Int} (h : PS base b V g A c n f ws p B c' lv ll) (hm : FmAt V1 g A c n f1 ws1) (ho : Only g A V V1)
    (hr : RefAt V2 p B2 c2 n f1) (hB : B2 = B ∨ V1.heap.size ≤ B2) (ho2 : Only p B V1 V2) : PS base b V2 g A c n f1 ws1 p B2 c2 lv ll ∧ Keep V V1 ∧ Keep V1 V2 := by
  obtain ⟨r1, k1, b1⟩ := h.onM hm ho
  have tg : TypeAt V1 g 54 := ⟨_, _, hm.blk⟩
  have tA := own_typeAt hm.row A rfl
  have tp : TypeAt V1 p 61 := ⟨_, _, r1.blk⟩
  have tB := own_typeAt r1.row B rfl
  have k2 : Keep V1 V2 := ho2.keep tp tB (by decide) (by decide) (by decide) (by decide)
  have hb := h.bases
  have s1 := ho.size
  have s2 := ho2.size
  refine ⟨⟨hm.only ho2 (tg.ne tp (by decide)) (tg.ne tB (by decide)) (tA.ne tp (by decide)) (tA.ne tB (by decide)), hr, k2.row (k1.row h.last), h.few, Only.below b1 ho2 (by omega) (by omega) (by omega), by omega⟩, k1, k2⟩
open Classical in
noncomputable def chZ (n : Nat) (f : Nat → Bool) (so : Bool) (l : List Int) : Int := if chB n f so l then 0 else 2
open Classical in
noncomputable def chF (n : Nat) (f : Nat → Bool) (so : Bool) (l : List Int) : Nat → Bool := if chB n f so l then flips f l else f
theorem Changed.is {W w' : World} {g A c n : Nat} {f : Nat → Bool} {so : Bool} {l : List Int} {e : Ending} (h : Changed W g A c n f so l e w') : ∃ ws', FmAt w' g A c n (chF n f so l) ws' ∧ Only g A W w' ∧ e = .returned (.int .i64 (chZ n f so l)) := by
  obtain ⟨f', ws', hf, ho, ⟨h1, h2, h3⟩ | ⟨h1, h2, h3⟩⟩ := h
  · exact ⟨ws', by unfold chF; rw [if_pos h1, ← h3]; exact hf, ho, by unfold chZ; rw [if_pos h1]; exact h2⟩
  · exact ⟨ws', by unfold chF; rw [if_neg h1, ← h3]; exact hf, ho, by unfold chZ; rw [if_neg h1]; exact h2⟩
theorem RChanged.is {W w' : World} {p B n : Nat} {f : Nat → Bool} {so : Bool} {l : List Int} {e : Ending} (h : RChanged W p B n f so l e w') : ∃ B' c', RefAt w' p B' c' n (chF n f so l) ∧ (B' = B ∨ W.heap.size ≤ B') ∧ Only p B W w' ∧ e = .returned (.int .i64 (chZ n f so l)) := by
  obtain ⟨f', B', c', hf, hB, ho, ⟨h1, h2, h3⟩ | ⟨h1, h2, h3⟩⟩ := h
  · exact ⟨B', c', by unfold chF; rw [if_pos h1, ← h3]; exact hf, hB, ho, by unfold chZ; rw [if_pos h1]; exact h2⟩
  · exact ⟨B', c', by unfold chF; rw [if_neg h1, ← h3]; exact hf, hB, ho, by unfold chZ; rw [if_neg h1]; exact h2⟩
structure RS (base : Nat) (b V : World) (g A c n : Nat) (f : Nat → Bool) (ws : List Nat) (p B c' : Nat) (lv : Value) (ll : List Int) (X : Nat) (cs : Array Value) (ov : Value) (Kn : Nat) (l3 : List Int) (P : Option Addr) : Prop where
  ps : PS base b V g A c n f ws p B c' lv ll
  x : V.heap[X]? = some (.cells cs 41 (0, 0))
  own : V.ownsRow base 3 1 ov Kn (nums .i64 l3)
  few : ReadsInt V .i64 P Kn l3
theorem RS.under {base : Nat} {b V V' : World} {g A c n : Nat} {f : Nat → Bool} {ws : List Nat} {p B c' : Nat} {lv : Value} {ll : List Int} {X : Nat} {cs : Array Value} {ov : Value} {Kn : Nat} {l3 : List Int} {P : Option Addr} (h : RS base b V g A c n f ws p B c' lv ll X cs ov Kn l3 P) (hb : Below V.heap.size V V') : RS base b V' g A c n f ws p B c' lv ll X cs ov Kn l3 P :=
  ⟨h.ps.under hb, blk_below h.x hb, pw_own_below h.own hb, h.few.below hb⟩
theorem RS.drew {base : Nat} {b V : World} {g A c n : Nat} {f : Nat → Bool} {ws : List Nat} {p B c' : Nat} {lv : Value} {ll : List Int} {X : Nat} {cs : Array Value} {ov : Value} {Kn : Nat} {l3 : List Int} {P : Option Addr} (h : RS base b V g A c n f ws p B c' lv ll X cs ov Kn l3 P) : RS base b V.drew g A c n f ws p B c' lv ll X cs ov Kn l3 P := h.under (below_drew (Below.refl _ _))
end Go.Proofs.YtdjjmmndfbffcaaDoor.FM

namespace Go.Proofs.YtdjjmmndfbffcaaDoor.FM
open Go.RowKit Go.ChangeShapes Go.WideShapes Go.Proofs.YtdjjmmndfbffcaaDoorW.PrintWords Go.Proofs.YtdjjmmndfbffcaaDoorW.PrintLast Go.Proofs.YtdjjmmndfbffcaaDoorW.PrintMore Go.Proofs.YtdjjmmndfbffcaaDoor.CD Go.Proofs.YtdjjmmndfbffcaaDoor.SP
set_option linter.unusedVariables false
set_option linter.unusedSimpArgs false
theorem open_texts {H : Type} {enc : TypeId × Value → H} {w : World} {base : Nat} {held : Bool} {r : Reach} {b0 : Nat} {v : Value} {d : DataW H} {p : List MemPlace}
    (hv : Value.okWide Tryd.prog w r b0 45 v) (h : DataW.Trod enc Tryd.prog w base (fun _ => true) held 45 v d p) :
    ∃ A n c l, v = .slice A n c ∧ n ≤ c ∧ SRd w A n l := by
  obtain ⟨A, len, cap, rfl⟩ := okWide_slice Tryd.underlying45 hv
  obtain ⟨fuel, hf⟩ := h
  rcases open_strings Tryd.underlying45 Tryd.underlying9 (by kernel_rfl) hf with ⟨hcs, hx⟩ | ⟨a, len', cap', ss, hcs, _, hl, hm, hz, hx, hcell, hsz⟩
  · simp [Value.cells] at hcs
    obtain ⟨rfl, rfl, rfl⟩ := hcs
    exact ⟨none, 0, 0, [], rfl, Nat.le_refl _, rfl, by decide, fun h => absurd h (by decide)⟩
  · simp [Value.cells] at hcs
    obtain ⟨rfl, rfl, rfl⟩ := hcs
    have hz2 : ss.length = cap := by simpa using hz
    refine ⟨some a, len, cap, ss.take len, rfl, hl, by rw [List.length_take]; omega, by unfold maxLen at hm; omega, fun _ => ⟨a, rfl, fun j hj => ?_⟩⟩
    rw [hcell j (by omega)]
    congr 2
    rw [List.getD_eq_getElem?_getD, List.getD_eq_getElem?_getD, List.getElem?_take, if_pos hj]
theorem SRd.take {W : World} {P : Option Addr} {N : Nat} {hs : List ByteArray} (h : SRd W P N hs) (m : Nat) (hm : m ≤ N) : SRd W P m (hs.take m) := by
  refine ⟨by have := h.1; rw [List.length_take]; omega, by have := h.2.1; omega, fun h0 => ?_⟩
  obtain ⟨a, ha, hc⟩ := h.2.2 (by omega)
  refine ⟨a, ha, fun j hj => ?_⟩
  rw [hc j (by omega)]
  congr 2
  rw [List.getD_eq_getElem?_getD, List.getD_eq_getElem?_getD, List.getElem?_take, if_pos hj]
set_option maxHeartbeats 8000000 in
set_option maxRecDepth 100000 in
theorem homesLaw (n : Int) (P : Option Addr) (N0 cap0 : Nat) (l0 : List Int) (hP : Option Addr) (N cap : Nat) (hs : List ByteArray) (W : World) (hn0 : -9223372036854775808 ≤ n ∧ n ≤ 9223372036854775807) (hr : ReadsInt W .i64 P N0 l0) (hN : N0 ≤ cap0) (hsz : N0 * 8 ≤ 140737488355328) (hh : SRd W hP N hs) (hc : N ≤ cap) (hT : TZ W) (hTab : CK.Tab W) :
    Calls Tryd.prog 7 #[.int .i64 n, .slice P N0 cap0, .slice hP N cap] W fun e w' => e = .returned (.bool true) ∧ Below W.heap.size W w' := by
  have HS1 : Hid (1 < W.heap.size) := Lib.hid (World.block_lt_of_cell? W _ (hTab 0 (by decide)))
  have HT := Lib.hid hT
  have HTb := Lib.hid hTab
  have HR := Lib.hid hr
  have HN := Lib.hid hN
  have HW := Lib.hid (fun V (h : TZ V) => works22 V h)
  obtain ⟨q, hqe⟩ : ∃ q, min N 40 = q := ⟨_, rfl⟩
  have hq1 : min (N : Int) 40 = (q : Int) := by omega
  obtain ⟨hq, hqq⟩ : ∃ hq, hs.take q = hq := ⟨_, rfl⟩
  have HRq : Hid (SRd W hP q hq) := Lib.hid (by rw [← hqq]; exact hh.take q (by omega))
  obtain ⟨i0, hin, hz0, hz1, hz2⟩ := info_parts infoStr
  have hcut := cut_to (P := Tryd.prog) 45 9 .i64 Tryd.underlying45 hin hP N cap (q : Int) (by omega) (by omega) hc
  rw [Int.toNat_natCast] at hcut
  clear hin hz0 hz1 hz2 hr hN hsz hh hT hTab hqq hqe hc
  by_cases hn : n < 256 ∨ 131072 < n
  · have H1 := Lib.hid (fun V => new_no n hn V)
    have H2 := Lib.hid (fun V => rnew_no n hn V)
    have H3 := Lib.hid (fun v V => of_no n hn v V)
    have H4 := Lib.hid (fun v V => rof_no n hn v V)
    clear hn
    go_enter Tryd.func7, Tryd.ntmps7
    go_wp2_with fail
    refine (H1.out _).mono ?_; rintro e w1 ⟨rfl, hb1⟩
    have HB1 := Lib.hid hb1
    clear hb1
    go_wp2_with fail
    refine (H2.out _).mono ?_; rintro e w2 ⟨rfl, hb2⟩
    have HB2 := Lib.hid (below_step HB1.out hb2)
    clear hb2
    go_wp2_with fail
    refine (H3.out _ _).mono ?_; rintro e w3 ⟨rfl, hb3⟩
    have HB3 := Lib.hid (below_step HB2.out hb3)
    clear hb3
    go_wp2_with fail
    refine (H4.out _ _).mono ?_; rintro e w4 ⟨rfl, hb4⟩
    have HB4 := Lib.hid (below_step HB3.out hb4)
    clear hb4
    go_wp2_with fail
    refine (HW.out _ (HT.out.below HB4.out HT.out.lt)).mono ?_; rintro e w5 ⟨rfl, hb5⟩
    have HB5 := Lib.hid (below_step HB4.out hb5)
    clear hb5
    go_wp2
    go_ret
    exact ⟨rfl, HB5.out⟩
  · obtain ⟨n, rfl⟩ : ∃ m : Nat, n = (m : Int) := ⟨n.toNat, by omega⟩
    have hnn : 256 ≤ n ∧ n ≤ 131072 := by omega
    have HNN := Lib.hid hnn
    have H1 := Lib.hid (fun V => new_calls n hnn V)
    have H2 := Lib.hid (fun V => rnew_calls n hnn V)
    obtain ⟨S, hS⟩ : ∃ S, sizeN n = S := ⟨_, rfl⟩
    have HSe := Lib.hid hS
    have HSr : Hid (1 ≤ S ∧ S ≤ 33) := Lib.hid (by rw [← hS]; unfold sizeN; omega)
    clear hn hnn hS hn0
    go_enter Tryd.func7, Tryd.ntmps7
    go_wp2_with fail
    refine (H1.out _).mono ?_; rintro e w1 ⟨rfl, ⟨c, ws, hfm⟩, hb1⟩
    obtain ⟨g, hg⟩ : ∃ g, W.heap.size + 1 = g := ⟨_, rfl⟩
    obtain ⟨A, hA⟩ : ∃ A, W.heap.size = A := ⟨_, rfl⟩
    rw [hg, hA] at hfm
    rw [hg]
    have HG : Hid (W.heap.size ≤ g ∧ W.heap.size ≤ A) := Lib.hid (by omega)
    have HF1 := Lib.hid hfm
    have HB1 := Lib.hid hb1
    clear hb1 hfm hg hA H1
    go_wp2_with fail
    refine (H2.out _).mono ?_; rintro e w2 ⟨⟨p, B, c', rfl, hr, hp, hB⟩, hb2⟩
    have HP2 : Hid (PS W.heap.size W w2 g A c n (upTo n) ws p B c' (.slice none 0 0) []) := Lib.hid ⟨HF1.out.below hb2 (Nat.le_refl _), hr, own_nil _ _ _ _, by simp, below_step HB1.out hb2, by have := HB1.out.size; have := HG.out; have := hb2.size; omega⟩
    clear hr hp hB hb2 H2 HF1 HB1 HG
    have HCut := Lib.hid hcut
    go_wp2_with fail
    clear hcut hq1
    go_loopw [11] (fun iv V => ∃ (i : Nat) (f : Nat → Bool) (ws : List Nat) (B c' : Nat), i ≤ N0 ∧ i ≤ 300 ∧ iv = .int .i64 (i : Int) ∧ Aside0 (PS W.heap.size W V g A c n f ws p B c' (.slice none 0 0) [])) (fun iv _ => N0 - (intOf iv).toNat)
    case atStart => exact ⟨0, upTo n, ws, B, c', Nat.zero_le _, Nat.zero_le _, rfl, ⟨by first | exact HP2.out | exact HP2.out.drew⟩⟩
    case round =>
      obtain ⟨i, f, ws, B, c', hi, hi2, rfl, ⟨hps⟩⟩ := hrel
      have HPi := Lib.hid hps
      clear hps
      by_cases hlt : i < N0 ∧ i < 300
      · have hd1 := decide_eq_true (show (i : Int) < (N0 : Int) by omega)
        have hd2 := decide_eq_true (show (i : Int) < 300 by omega)
        have hw : wrap64 ((i : Int) + 1) = (i : Int) + 1 := by unfold wrap64; omega
        have hn1 := decide_eq_true hlt.1
        have hn2 := decide_eq_true hlt.2
        obtain ⟨i0, hin, hz0, hz1, hz2⟩ := info_parts infoInt
        have hcut := cut_mid (P := Tryd.prog) 22 3 .i64 .i64 Tryd.underlying22 hin 1 hz1 P N0 cap0 (i : Int) ((i : Int) + 1) (by omega) (by omega) (by omega) HN.out
        rw [show ((i : Int) + 1).toNat = i + 1 by omega, Int.toNat_natCast, if_neg (by have := HN.out; omega), show i + 1 - i = 1 by omega, Nat.mul_one] at hcut
        have HRi := Lib.hid (reads_one (HR.out.below HPi.out.below) i hlt.1)
        have HK := Lib.hid (keep_calls HPi.out.m (P.map (fun x => x.add i)) 1 (cap0 - i) _ HRi.out (by decide))
        have Hlt := Lib.hid hlt
        clear hin hz0 hz1 hz2 hlt hi hi2
        go_wp2_with fail
        refine HK.out.mono ?_; rintro e w3 hch
        obtain ⟨ws3, hf3, ho3, rfl⟩ := hch.is
        obtain ⟨r3, _, b3⟩ := HPi.out.onM hf3 ho3
        have HF3 := Lib.hid hf3
        have HO3 := Lib.hid ho3
        have HRj := Lib.hid (reads_one (HR.out.below b3) i Hlt.out.1)
        have HK2 := Lib.hid (rkeep_calls r3 (P.map (fun x => x.add i)) 1 (cap0 - i) _ HRj.out (by decide))
        clear hch hf3 ho3 r3 b3 HK
        go_wp2_with fail
        refine HK2.out.mono ?_; rintro e w4 hch
        obtain ⟨B4, c4, hf4, hB4, ho4, rfl⟩ := hch.is
        have HP4 := Lib.hid (HPi.out.both HF3.out HO3.out hf4 hB4 ho4).1
        clear hch hf4 hB4 ho4 HK2 hcut
        go_wp2
        go_roundw
        case rel => exact ⟨i + 1, _, ws3, B4, c4, by have := Hlt.out; omega, by have := Hlt.out; omega, by first | rfl | (rw [hw]; rfl), ⟨by first | exact HP4.out | exact HP4.out.drew⟩⟩
        case measure => have h1 := Hlt.out; first | (rw [hw]; simp [intOf]; omega) | (simp [intOf]; omega)
      · by_cases h1 : i < N0
        · have hd1 := decide_eq_true (show (i : Int) < (N0 : Int) by omega)
          have hd2 := decide_eq_false (show ¬ (i : Int) < 300 by omega)
          have hn1 := decide_eq_true h1
          have hn2 := decide_eq_false (show ¬ i < 300 by omega)
          clear h1
          clear hlt hi
          have HSF := Lib.hid (homes_calls HPi.out.m (HTb.out.below HPi.out.below HS1.out) (by have := HPi.out.bases.2.2.2.2.2; have := HS1.out; omega))
          go_wp2_with fail
          refine HSF.out.mono ?_; rintro e w3 ⟨va, rfl, hsa, hb3⟩
          have HP3 := Lib.hid (HPi.out.under hb3)
          obtain ⟨Aa, ca, rfl⟩ := own_slice hsa
          have HLn : Hid ((homesS n f (sizeN n)).length = S) := Lib.hid (by rw [homesS_length]; exact HSe.out)
          obtain ⟨H, hH⟩ : ∃ H, homesS n f (sizeN n) = H := ⟨_, rfl⟩
          unfold SR at hsa
          rw [hH] at HLn
          rw [hH, HLn.out] at hsa
          rw [hH, HLn.out]
          have HHe := Lib.hid hH
          have HSa := Lib.hid hsa
          have HRm := Lib.hid (rhomes_calls HP3.out.r)
          clear hsa hb3 hH HSF
          go_wp2_with fail
          refine HRm.out.mono ?_; rintro e w4 ⟨vb, rfl, hsb, hb4⟩
          have HP4 := Lib.hid (HP3.out.under hb4)
          have HSa4 := Lib.hid (pw_own_below HSa.out hb4)
          obtain ⟨Ab, cb, rfl⟩ := own_slice hsb
          unfold SR at hsb
          rw [HHe.out, HLn.out] at hsb
          rw [HHe.out, HLn.out]
          have HSm := Lib.hid (same_calls (c1 := ca) (c2 := cb) (SR.reads HSa4.out) (SR.reads hsb) (by have := HSr.out; omega))
          clear hsb hb4 HRm HSa
          go_wp2_with fail
          refine HSm.out.mono ?_; rintro e w5 ⟨rfl, hb5⟩
          have HB5 := Lib.hid (HP4.out.under hb5).below
          clear hb5 HSm HP3 HP4 HPi HSa4 HP2 HCut
          have HOf := Lib.hid (of_calls n HNN.out hP q cap hq w5 (HRq.out.below HB5.out) (HTb.out.below HB5.out HS1.out) (by have := HB5.out.size; have := HS1.out; omega))
          go_wp2_with fail
          refine HOf.out.mono ?_; rintro e w6 ⟨hof, hb6⟩
          have HB6 := Lib.hid (below_step HB5.out hb6)
          have HRf := Lib.hid (rof_calls n HNN.out hP q cap hq w6 (HRq.out.below HB6.out))
          clear hb6 HOf
          rcases hof with ⟨f1, g2, A2, c2, ws2, hi1, rfl, hf2, hg2, hA2⟩ | ⟨hno, rfl⟩
          · have HI1 := Lib.hid hi1
            have HF2 := Lib.hid hf2
            clear hi1 hf2 hg2 hA2
            go_wp2_with fail
            refine HRf.out.mono ?_; rintro e w7 ⟨hof, hb7⟩
            have hof2 : ∃ (p2 B2 c3 : Nat), e = .returned (.tuple #[.pointer (some ⟨p2, 0, none⟩), .int .i64 0]) ∧ RefAt w7 p2 B2 c3 n f1 := by
              rcases hof with ⟨f2, p2, B2, c3, hi2, he, hf2, _, _⟩ | ⟨hno, _⟩
              · rw [hi2.one HI1.out] at hf2
                exact ⟨p2, B2, c3, he, hf2⟩
              · exact absurd HI1.out (hno f1)
            obtain ⟨p2, B2, c3, rfl, hr2⟩ := hof2
            have HR7 := Lib.hid hr2
            have HF7 := Lib.hid (HF2.out.below hb7 (Nat.le_refl _))
            have HB7 := Lib.hid (below_step HB6.out hb7)
            have HHa := Lib.hid (homes_calls HF7.out (HTb.out.below HB7.out HS1.out) (by have := HB7.out.size; have := HS1.out; omega))
            clear hof hr2 hb7 HRf
            go_wp2_with fail
            refine HHa.out.mono ?_; rintro e w8 ⟨va, rfl, hsa, hb8⟩
            have HR8 := Lib.hid (HR7.out.below hb8 (Nat.le_refl _))
            have HF8 := Lib.hid (HF7.out.below hb8 (Nat.le_refl _))
            have HB8 := Lib.hid (below_step HB7.out hb8)
            obtain ⟨Aa2, ca2, rfl⟩ := own_slice hsa
            unfold SR at hsa
            rw [HI1.out.2] at hsa
            rw [HI1.out.2]
            have HLq : Hid (hq.length = S) := Lib.hid (by rw [← HI1.out.2, homesS_length]; exact HSe.out)
            rw [HLq.out] at hsa
            rw [HLq.out]
            have HSa8 := Lib.hid hsa
            have HHb := Lib.hid (rhomes_calls HR8.out)
            clear hsa hb8 HHa
            go_wp2_with fail
            refine HHb.out.mono ?_; rintro e w9 ⟨vb, rfl, hsb, hb9⟩
            have HR9 := Lib.hid (HR8.out.below hb9 (Nat.le_refl _))
            have HF9 := Lib.hid (HF8.out.below hb9 (Nat.le_refl _))
            have HB9 := Lib.hid (below_step HB8.out hb9)
            have HSa9 := Lib.hid (pw_own_below HSa8.out hb9)
            obtain ⟨Ab2, cb2, rfl⟩ := own_slice hsb
            unfold SR at hsb
            rw [HI1.out.2, HLq.out] at hsb
            rw [HI1.out.2, HLq.out]
            have HSm := Lib.hid (same_calls (c1 := ca2) (c2 := cb2) (SR.reads HSa9.out) (SR.reads hsb) (by have := HSr.out; omega))
            clear hsb hb9 HHb HSa8
            go_wp2_with fail
            refine HSm.out.mono ?_; rintro e wa ⟨rfl, hba⟩
            have HRa := Lib.hid (HR9.out.below hba (Nat.le_refl _))
            have HFa := Lib.hid (HF9.out.below hba (Nat.le_refl _))
            have HBa := Lib.hid (below_step HB9.out hba)
            have HFr := Lib.hid (free_calls HFa.out)
            obtain ⟨z, hz⟩ : ∃ z : Nat, cnt f1 n = z := ⟨_, rfl⟩
            have Hz := Lib.hid hz
            rw [hz] at HFr
            clear hba hz HSm HSa9
            go_wp2_with fail
            refine HFr.out.mono ?_; rintro e wb ⟨rfl, hbb⟩
            have HRb := Lib.hid (HRa.out.below hbb (Nat.le_refl _))
            have HBb := Lib.hid (below_step HBa.out hbb)
            have HFq := Lib.hid (rfree_calls HRb.out)
            rw [Hz.out] at HFq
            clear hbb HFr
            go_wp2_with fail
            refine HFq.out.mono ?_; rintro e wc ⟨rfl, hbc⟩
            have HBc := Lib.hid (below_step HBb.out hbc)
            have hzz : ((z : Int) == (z : Int)) = true := by simp
            have hzd : decide (z = z) = true := by simp
            clear hbc HFq
            go_wp2_with fail
            refine (HW.out _ (HT.out.below HBc.out HT.out.lt)).mono ?_; rintro e wd ⟨rfl, hbd⟩
            have HBd := Lib.hid (below_step HBc.out hbd)
            clear hbd
            go_wp2
            go_ret
            exact ⟨rfl, HBd.out⟩
          · have HNo := Lib.hid hno
            clear hno
            go_wp2_with fail
            refine HRf.out.mono ?_; rintro e w7 ⟨hof, hb7⟩
            have hof2 : e = .returned (.tuple #[.pointer none, .int .i64 4]) := by
              rcases hof with ⟨f2, p2, B2, c3, hi2, _⟩ | ⟨_, he⟩
              · exact absurd hi2 (HNo.out f2)
              · exact he
            obtain rfl := hof2
            have HB7 := Lib.hid (below_step HB6.out hb7)
            clear hof hb7 HRf
            go_wp2_with fail
            refine (HW.out _ (HT.out.below HB7.out HT.out.lt)).mono ?_; rintro e w8 ⟨rfl, hb8⟩
            have HB8 := Lib.hid (below_step HB7.out hb8)
            clear hb8
            go_wp2
            go_ret
            exact ⟨rfl, HB8.out⟩
        · have hd1 := decide_eq_false (show ¬ (i : Int) < (N0 : Int) by omega)
          have hn1 := decide_eq_false h1
          clear h1
          clear hlt hi
          have HSF := Lib.hid (homes_calls HPi.out.m (HTb.out.below HPi.out.below HS1.out) (by have := HPi.out.bases.2.2.2.2.2; have := HS1.out; omega))
          go_wp2_with fail
          refine HSF.out.mono ?_; rintro e w3 ⟨va, rfl, hsa, hb3⟩
          have HP3 := Lib.hid (HPi.out.under hb3)
          obtain ⟨Aa, ca, rfl⟩ := own_slice hsa
          have HLn : Hid ((homesS n f (sizeN n)).length = S) := Lib.hid (by rw [homesS_length]; exact HSe.out)
          obtain ⟨H, hH⟩ : ∃ H, homesS n f (sizeN n) = H := ⟨_, rfl⟩
          unfold SR at hsa
          rw [hH] at HLn
          rw [hH, HLn.out] at hsa
          rw [hH, HLn.out]
          have HHe := Lib.hid hH
          have HSa := Lib.hid hsa
          have HRm := Lib.hid (rhomes_calls HP3.out.r)
          clear hsa hb3 hH HSF
          go_wp2_with fail
          refine HRm.out.mono ?_; rintro e w4 ⟨vb, rfl, hsb, hb4⟩
          have HP4 := Lib.hid (HP3.out.under hb4)
          have HSa4 := Lib.hid (pw_own_below HSa.out hb4)
          obtain ⟨Ab, cb, rfl⟩ := own_slice hsb
          unfold SR at hsb
          rw [HHe.out, HLn.out] at hsb
          rw [HHe.out, HLn.out]
          have HSm := Lib.hid (same_calls (c1 := ca) (c2 := cb) (SR.reads HSa4.out) (SR.reads hsb) (by have := HSr.out; omega))
          clear hsb hb4 HRm HSa
          go_wp2_with fail
          refine HSm.out.mono ?_; rintro e w5 ⟨rfl, hb5⟩
          have HB5 := Lib.hid (HP4.out.under hb5).below
          clear hb5 HSm HP3 HP4 HPi HSa4 HP2 HCut
          have HOf := Lib.hid (of_calls n HNN.out hP q cap hq w5 (HRq.out.below HB5.out) (HTb.out.below HB5.out HS1.out) (by have := HB5.out.size; have := HS1.out; omega))
          go_wp2_with fail
          refine HOf.out.mono ?_; rintro e w6 ⟨hof, hb6⟩
          have HB6 := Lib.hid (below_step HB5.out hb6)
          have HRf := Lib.hid (rof_calls n HNN.out hP q cap hq w6 (HRq.out.below HB6.out))
          clear hb6 HOf
          rcases hof with ⟨f1, g2, A2, c2, ws2, hi1, rfl, hf2, hg2, hA2⟩ | ⟨hno, rfl⟩
          · have HI1 := Lib.hid hi1
            have HF2 := Lib.hid hf2
            clear hi1 hf2 hg2 hA2
            go_wp2_with fail
            refine HRf.out.mono ?_; rintro e w7 ⟨hof, hb7⟩
            have hof2 : ∃ (p2 B2 c3 : Nat), e = .returned (.tuple #[.pointer (some ⟨p2, 0, none⟩), .int .i64 0]) ∧ RefAt w7 p2 B2 c3 n f1 := by
              rcases hof with ⟨f2, p2, B2, c3, hi2, he, hf2, _, _⟩ | ⟨hno, _⟩
              · rw [hi2.one HI1.out] at hf2
                exact ⟨p2, B2, c3, he, hf2⟩
              · exact absurd HI1.out (hno f1)
            obtain ⟨p2, B2, c3, rfl, hr2⟩ := hof2
            have HR7 := Lib.hid hr2
            have HF7 := Lib.hid (HF2.out.below hb7 (Nat.le_refl _))
            have HB7 := Lib.hid (below_step HB6.out hb7)
            have HHa := Lib.hid (homes_calls HF7.out (HTb.out.below HB7.out HS1.out) (by have := HB7.out.size; have := HS1.out; omega))
            clear hof hr2 hb7 HRf
            go_wp2_with fail
            refine HHa.out.mono ?_; rintro e w8 ⟨va, rfl, hsa, hb8⟩
            have HR8 := Lib.hid (HR7.out.below hb8 (Nat.le_refl _))
            have HF8 := Lib.hid (HF7.out.below hb8 (Nat.le_refl _))
            have HB8 := Lib.hid (below_step HB7.out hb8)
            obtain ⟨Aa2, ca2, rfl⟩ := own_slice hsa
            unfold SR at hsa
            rw [HI1.out.2] at hsa
            rw [HI1.out.2]
            have HLq : Hid (hq.length = S) := Lib.hid (by rw [← HI1.out.2, homesS_length]; exact HSe.out)
            rw [HLq.out] at hsa
            rw [HLq.out]
            have HSa8 := Lib.hid hsa
            have HHb := Lib.hid (rhomes_calls HR8.out)
            clear hsa hb8 HHa
            go_wp2_with fail
            refine HHb.out.mono ?_; rintro e w9 ⟨vb, rfl, hsb, hb9⟩
            have HR9 := Lib.hid (HR8.out.below hb9 (Nat.le_refl _))
            have HF9 := Lib.hid (HF8.out.below hb9 (Nat.le_refl _))
            have HB9 := Lib.hid (below_step HB8.out hb9)
            have HSa9 := Lib.hid (pw_own_below HSa8.out hb9)
            obtain ⟨Ab2, cb2, rfl⟩ := own_slice hsb
            unfold SR at hsb
            rw [HI1.out.2, HLq.out] at hsb
            rw [HI1.out.2, HLq.out]
            have HSm := Lib.hid (same_calls (c1 := ca2) (c2 := cb2) (SR.reads HSa9.out) (SR.reads hsb) (by have := HSr.out; omega))
            clear hsb hb9 HHb HSa8
            go_wp2_with fail
            refine HSm.out.mono ?_; rintro e wa ⟨rfl, hba⟩
            have HRa := Lib.hid (HR9.out.below hba (Nat.le_refl _))
            have HFa := Lib.hid (HF9.out.below hba (Nat.le_refl _))
            have HBa := Lib.hid (below_step HB9.out hba)
            have HFr := Lib.hid (free_calls HFa.out)
            obtain ⟨z, hz⟩ : ∃ z : Nat, cnt f1 n = z := ⟨_, rfl⟩
            have Hz := Lib.hid hz
            rw [hz] at HFr
            clear hba hz HSm HSa9
            go_wp2_with fail
            refine HFr.out.mono ?_; rintro e wb ⟨rfl, hbb⟩
            have HRb := Lib.hid (HRa.out.below hbb (Nat.le_refl _))
            have HBb := Lib.hid (below_step HBa.out hbb)
            have HFq := Lib.hid (rfree_calls HRb.out)
            rw [Hz.out] at HFq
            clear hbb HFr
            go_wp2_with fail
            refine HFq.out.mono ?_; rintro e wc ⟨rfl, hbc⟩
            have HBc := Lib.hid (below_step HBb.out hbc)
            have hzz : ((z : Int) == (z : Int)) = true := by simp
            have hzd : decide (z = z) = true := by simp
            clear hbc HFq
            go_wp2_with fail
            refine (HW.out _ (HT.out.below HBc.out HT.out.lt)).mono ?_; rintro e wd ⟨rfl, hbd⟩
            have HBd := Lib.hid (below_step HBc.out hbd)
            clear hbd
            go_wp2
            go_ret
            exact ⟨rfl, HBd.out⟩
          · have HNo := Lib.hid hno
            clear hno
            go_wp2_with fail
            refine HRf.out.mono ?_; rintro e w7 ⟨hof, hb7⟩
            have hof2 : e = .returned (.tuple #[.pointer none, .int .i64 4]) := by
              rcases hof with ⟨f2, p2, B2, c3, hi2, _⟩ | ⟨_, he⟩
              · exact absurd hi2 (HNo.out f2)
              · exact he
            obtain rfl := hof2
            have HB7 := Lib.hid (below_step HB6.out hb7)
            clear hof hb7 HRf
            go_wp2_with fail
            refine (HW.out _ (HT.out.below HB7.out HT.out.lt)).mono ?_; rintro e w8 ⟨rfl, hb8⟩
            have HB8 := Lib.hid (below_step HB7.out hb8)
            clear hb8
            go_wp2
            go_ret
            exact ⟨rfl, HB8.out⟩
end Go.Proofs.YtdjjmmndfbffcaaDoor.FM
