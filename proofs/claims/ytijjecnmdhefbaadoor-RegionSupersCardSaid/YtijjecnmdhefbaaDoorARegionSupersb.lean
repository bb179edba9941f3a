/- The own texts that the statement RegionSupers leans on: SupGet, SupOps, RWorks, SupAgain, RefSupW, RefCrc, RefSupPut, FirstP, FirstF, RRdr, RRdrNum, QRef, RRdrInt, QRefI, RxRef, RefSupGet, RSupers. -/
import Derived.Test.YtijjecnmdhefbaaDoorARegionSupers
import Derived.Test.YtijjecnmdhefbaaDoorPRegionSupersx1
import Derived.Lib.ConvBytes
import Derived.ChangeKeysEq
import Derived.Outline
import Derived.Deep.DeepCutAuto
import Derived.Test.YtijjecnmdhefbaaDoorPRegionSupersx2
import Derived.Test.YtijjecnmdhefbaaDoorPRegionSupersx3
namespace Go.Proofs.YtijjecnmdhefbaaDoor.SP
open Go.RowKit Go.Proofs.YtijjecnmdhefbaaDoorW.PrintWords Go.Proofs.YtijjecnmdhefbaaDoorW.PrintLast Go.Proofs.YtijjecnmdhefbaaDoorW.PrintMore Go.Proofs.YtijjecnmdhefbaaDoor.CD Go.Proofs.YtijjecnmdhefbaaDoor.BR Go.Proofs.YtijjecnmdhefbaaDoor.BP Go.Proofs.YtijjecnmdhefbaaDoor.RG
set_option linter.unusedVariables false
set_option linter.unusedSimpArgs false
set_option maxRecDepth 100000
def zeroA : Anc := ⟨false, 0, 0, 0⟩
def zeroS : Sup := ⟨0, 0, 0, zeroA, zeroA, 0, 0, 0, 0, 0, 0, 0⟩
def Gets (sector : ByteArray) (w : World) (e : Ending) (w' : World) : Prop :=
  ((∃ s, Ok lims s ∧ putS s = bytesOf sector ∧ e = .returned (.tuple #[.agg (supC s).toArray, .int .i64 0])) ∨ (∀ s, Ok lims s → putS s ≠ bytesOf sector) ∧ e = .returned (.tuple #[.agg (supC zeroS).toArray, .int .i64 21])) ∧ Below w.heap.size w w'
theorem load_sup {W : World} {g : Nat} {s : Sup} (h : SupAt W g s) : (loadVar 33 ⟨g, 0, none⟩).run Tryd.prog W = .ok (.agg (supC s).toArray) W :=
  run_loadVar_mid W g 0 33 (supC s) _ (sup_range h) Tryd.underlying33 rfl sup_info
def putAt (cs : Array Value) : Nat → List Value → Array Value
  | _, [] => cs
  | o, v :: r => putAt (cs.setIfInBounds o v) (o + 1) r
theorem blk_sets {t : TypeId} {b : Nat} : ∀ (vs : List Value) (o : Nat) (w : World) (cs : Array Value), w.heap[b]? = some (.cells cs t (0, 0)) → (w.setCells b o vs).heap[b]? = some (.cells (putAt cs o vs) t (0, 0))
  | [], _, _, _, h => h
  | v :: r, o, w, cs, h => blk_sets r (o + 1) _ _ (blk_set h o v)
theorem gsets {a : World} {b : Nat} : ∀ (vs : List Value) (o : Nat) (w : World), a.grownBy w (some b) → a.grownBy (w.setCells b o vs) (some b)
  | [], _, _, h => h
  | v :: r, o, w, h => gsets r (o + 1) _ (gset h o v)
theorem blk_there {w : World} {b : Nat} {cs : Array Value} {t : TypeId} (h : w.heap[b]? = some (.cells cs t (0, 0))) (o n : Nat) (hn : o + n ≤ cs.size) : w.there b o n := fun j hj => by
  rw [blk_cell h, blk_frozen h]
  refine ⟨?_, rfl⟩
  rw [Array.getElem?_eq_getElem (by omega)]
  rfl
theorem putAt_all : ∀ (vs pre old : List Value), old.length = vs.length → putAt (pre ++ old).toArray pre.length vs = (pre ++ vs).toArray
  | [], pre, old, h => by
    have : old = [] := List.eq_nil_of_length_eq_zero h
    subst this
    rfl
  | v :: r, pre, [], h => by simp at h
  | v :: r, pre, o :: old, h => by
    have e : (pre ++ o :: old).toArray.setIfInBounds pre.length v = ((pre ++ [v]) ++ old).toArray := by
      rw [List.setIfInBounds_toArray, List.set_append_right _ _ (Nat.le_refl _), Nat.sub_self]
      simp
    have k := putAt_all r (pre ++ [v]) old (by simpa using h)
    rw [putAt, e]
    rw [List.length_append, List.length_singleton] at k
    rw [k, List.append_assoc]
    rfl
theorem sup_put (s z : Sup) : putAt (supC z).toArray 0 (supC s) = (supC s).toArray := putAt_all (supC s) [] (supC z) rfl
theorem SupAt.all {W : World} {g : Nat} {z : Sup} (h : SupAt W g z) (s : Sup) : SupAt (W.setCells g 0 (supC s)) g s := by
  have := blk_sets (supC s) 0 W _ h
  rw [sup_put] at this
  exact this
theorem sup_one (s : Sup) : (supC s).toArray.all (·.oneCell') = true := by simp [supC, Value.oneCell']
theorem SupAt.there {W : World} {g : Nat} {s : Sup} (h : SupAt W g s) : W.there g 0 18 := blk_there h 0 18 (Nat.le_refl _)
theorem nextSuper_calls (w0 : World) (C g : Nat) (s : St) (w : World) (h : Nx w0 w C g s) :
    Calls Tryd.prog 30 #[.pointer (some ⟨C, 0, none⟩)] w fun e w' => e = .returned (.int .i64 (rNext s).1) ∧ Nx w0 w' C g (rNext s).2 ∧ w.grownBy w' (some g) := by
  have H := Lib.hid h
  have h0 := blk_cell h.cell 0
  simp only [List.getElem?_toArray, List.getElem?_cons_succ, List.getElem?_cons_zero] at h0
  clear h
  go_enter Tryd.func30, Tryd.ntmps30
  go_wp2_with fail
  refine (small_calls g s _ H.out.rdr).mono ?_; rintro e w' ⟨rfl, hr, hg⟩; have HR := Lib.hid hr; have HG := Lib.hid hg; clear hr hg
  go_wp2
  go_ret
  exact ⟨rfl, H.out.step HR.out HG.out, HG.out⟩
structure GS (w0 W : World) (C g G : Nat) (st : St) (s : Sup) : Prop where
  nx : Nx w0 W C g st
  sup : SupAt W G s
  cG : C < G
theorem GS.under {w0 W W' : World} {C g G : Nat} {st : St} {s : Sup} (h : GS w0 W C g G st s) (hb : Below W.heap.size W W') : GS w0 W' C g G st s := ⟨h.nx.under hb, h.sup.below hb h.sup.lt, h.cG⟩
theorem GS.read {w0 W W' : World} {C g G : Nat} {st st' : St} {s : Sup} (h : GS w0 W C g G st s) (hn : Nx w0 W' C g st') (hg : W.grownBy W' (some g)) : GS w0 W' C g G st' s :=
  ⟨hn, blk_grown h.sup hg (fun e => by have := h.cG; have := h.nx.g2; injection e with e; omega), h.cG⟩
theorem GS.set {w0 W : World} {C g G : Nat} {st : St} {s : Sup} (h : GS w0 W C g G st s) (i : Nat) (v : Value) {s' : Sup} (e : (supC s).set i v = supC s') : GS w0 (W.setCell ⟨G, i, none⟩ v) C g G st s' :=
  ⟨h.nx.far (gset (World.grownBy.refl W _) i v) (fun k hk => by injection hk with hk; have := h.cG; omega), blk_put h.sup i v (by rw [List.setIfInBounds_toArray, e]), h.cG⟩
theorem numQ_calls (w0 : World) (C g : Nat) (s : St) (w : World) (h : Nx w0 w C g s) :
    Calls Tryd.prog 32 #[.pointer (some ⟨g, 0, none⟩)] w fun e w' => e = .returned (.int .u64 ((rNum s).1 : Int)) ∧ Nx w0 w' C g (rNum s).2 ∧ w.grownBy w' (some g) :=
  (BQ.num_calls g s.1 s.2 w h.rdr).mono fun e w' hh => ⟨hh.1, h.step hh.2.1 hh.2.2, hh.2.2⟩
theorem rInt_is (s : St) : rInt s = rInt' s := by
  unfold rInt rInt' rNum
  cases h : s.2 <;> simp [zag]
theorem intQ_calls (w0 : World) (C g : Nat) (s : St) (w : World) (h : Nx w0 w C g s) :
    Calls Tryd.prog 33 #[.pointer (some ⟨g, 0, none⟩)] w fun e w' => e = .returned (.int .i64 (rInt' s).1) ∧ Nx w0 w' C g (rInt' s).2 ∧ w.grownBy w' (some g) :=
  by
  have k := BQ.int_calls g s.1 s.2 w h.rdr
  rw [rInt_is] at k
  exact k.mono fun e w' hh => ⟨hh.1, h.step hh.2.1 hh.2.2, hh.2.2⟩
def stI (t : St) (i : Nat) : St := if i = 0 then t else if i = 1 then (readA t).2 else (readA (readA t).2).2
def supI (a : Int) (b : Nat) (c : Int) (t : St) (i : Nat) : Sup := ⟨a, b, c, if i = 0 then zeroA else (readA t).1, if i = 2 then (readA (readA t).2).1 else zeroA, 0, 0, 0, 0, 0, 0, 0⟩
theorem get_none {sector : ByteArray} {s : Sup} {X : List Int} (hx : X = (bytesOf sector).drop 8) (hr : readS X = s) (h : superB s = false ∨ putS s ≠ bytesOf sector) : ∀ s', Ok lims s' → putS s' ≠ bytesOf sector := fun s' hk e => by
  have k := readS_put lims s' hk (by unfold lims; decide)
  rw [e, ← hx, hr] at k
  subst k
  rcases h with h | h
  · rw [(superB_iff s hk.seed).2 hk] at h
    cases h
  · exact h e
theorem pre_not {sector : ByteArray} (h : (bytesOf sector).length = 512 → (bytesOf sector).take 8 = magic → False) : ∀ s, Ok lims s → putS s ≠ bytesOf sector := fun s _ e => by
  refine h (by rw [← e, putS_length]) (by rw [← e]; rfl)
def magicS : ByteArray := ⟨#[66, 69, 68, 82, 79, 67, 75, 49]⟩
theorem prefix_calls (sector : ByteArray) (hs : sector.size = 512) (W : World) : Calls Tryd.prog 28 #[.string sector, .string ⟨#[66, 69, 68, 82, 79, 67, 75, 49]⟩] W fun e w' => e = .returned (.bool (decide ((bytesOf sector).take 8 = magic))) ∧ Below W.heap.size W w' := by
  refine (PRegionSupers.strings_HasPrefix.calls sector magicS (decide ((bytesOf sector).take 8 = magic)) W ?_).mono fun e w' h => ⟨h.1, h.2.below⟩
  unfold PRegionSupers.strings_HasPrefix.f PRegionSupers.stringslite_HasPrefix.f
  have e8 : (magicS.size : Int) = 8 := rfl
  rw [e8, hs, if_pos (by decide), if_pos (by decide), if_pos (by decide)]
  simp only [Option.bind_some]
  have hx : bytesOf (sector.extract 0 (8 : Int).toNat) = (bytesOf sector).take 8 := by
    rw [BS.bytesOf_extract]; rfl
  have hm : bytesOf magicS = magic := by decide
  by_cases h : (bytesOf sector).take 8 = magic
  · rw [decide_eq_true h, BS.beq_of (BS.bytesOf_inj (by rw [hx, hm, h]))]
  · rw [decide_eq_false h, BS.beq_not (fun e => h (by rw [← hx, e, hm]))]
theorem results_cell2 {fn : Func} {t u : Tmp} {ty : TypeId} {a : Addr} {v : Value} (h : fn.results = #[.cell t ty, .tmp u]) (tmps : Array Value) (w : World) (ha : tmps.getD t undef = .pointer (some a)) (hl : (loadVar ty a).run Tryd.prog w = .ok v w) :
    (results fn tmps).run Tryd.prog w = .ok (.tuple #[v, tmps.getD u undef]) w := by
  have ha' : tmps[t]?.getD undef = .pointer (some a) := by simpa using ha
  simp [results, h, ha', hl, asAddr]
theorem newstrQ_calls (t : ByteArray) (W : World) (ht : t.size ≤ 140737488355328) :
    Calls Tryd.prog 29 #[.slice (some ⟨W.heap.size, 0, none⟩) t.size (grownCap W t.size 0 5)] (bw W t) fun e w' => ∃ g, e = .returned (.pointer (some ⟨g, 0, none⟩)) ∧ (bw W t).heap.size ≤ g ∧ BQ.Rdr (fun k => (bw W t).heap.size ≤ k ∧ k < g) w' g (bytesOf t) false ∧ Below (bw W t).heap.size (bw W t) w' := by
  have h := BQ.new_calls (some ⟨W.heap.size, 0, none⟩) (grownCap W t.size 0 5) (bytesOf t) (bw W t) (bw_reads W t (by omega)) (by rw [bytesOf_length]; exact grownCap_ge _ _ _ _) (BS.bytes_bytesOf t) (by rw [bytesOf_length]; exact ht)
  rw [bytesOf_length] at h
  exact h
set_option maxHeartbeats 8000000 in
theorem getSuper_calls (sector : ByteArray) (w : World) (ht : CK.Tab w) (h0 : 0 < w.heap.size) :
    Calls Tryd.prog 8 #[.string sector] w fun e w' => Gets sector w e w' := by
  have HT := Lib.hid ht
  have H0 := Lib.hid h0
  clear ht h0
  go_enter Tryd.func8, Tryd.ntmps8
  go_upto_region 1 with fail
  have HA := Lib.hid (SupAt.new w zeroS)
  have HBa := Lib.hid (below_alloc (Below.refl w.heap.size w) (.cells (supC zeroS).toArray 33))
  obtain ⟨W1, hW1⟩ : ∃ W, w.alloc (.cells (supC zeroS).toArray 33) = W := ⟨_, rfl⟩
  rw [hW1] at HA HBa
  rw [show w.alloc (.cells #[.int .i64 0, .int .i64 0, .int .u64 0, .int .i64 0, .int .i64 0, .int .i64 0, .bool false, .int .i64 0, .int .i64 0, .int .i64 0, .bool false, .int .i64 0, .int .i64 0, .int .i64 0, .int .i64 0, .int .i64 0, .int .i64 0, .int .i64 0] 33) = W1 from hW1]
  clear hW1
  obtain ⟨R, hR⟩ : ∃ R, w.heap.size = R := ⟨_, rfl⟩
  have HRb := Lib.hid hR
  rw [hR] at HA
  rw [hR]
  clear hR
  by_cases hl : sector.size = 512
  · have HL := Lib.hid hl
    have HPre := Lib.hid (fun W => prefix_calls sector hl W)
    have hn1 : ((sector.size : Int) != 512) = false := by rw [hl]; rfl
    go_wp2_with fail
    refine (HPre.out _).mono ?_; rintro e w2 ⟨rfl, hb2⟩
    by_cases hm : (bytesOf sector).take 8 = magic
    · have hdm := decide_eq_true hm
      have hts : (sector.extract 8 512).size = 504 := by
        rw [← BS.size_bytesOf, BS.bytesOf_extract, List.length_drop, List.length_take, BS.size_bytesOf, hl]; rfl
      have HX := Lib.hid (show bytesOf (sector.extract 8 512) = (bytesOf sector).drop 8 by rw [BS.bytesOf_extract, List.take_of_length_le (by rw [BS.size_bytesOf, hl]; exact Nat.le_refl _)])
      have HNew := Lib.hid (newstrQ_calls (sector.extract 8 512) w2 (by rw [hts]; omega))
      have hcv := bytes_run (sector.extract 8 512) w2
      have HA2 := Lib.hid ((HA.out.below hb2 HA.out.lt).below (bw_below w2 (sector.extract 8 512)) (HA.out.below hb2 HA.out.lt).lt)
      have HB3 := Lib.hid (below_step (below_step HBa.out hb2) (bw_below w2 (sector.extract 8 512)))
      have HM := Lib.hid hm
      rw [hts] at HNew hcv
      obtain ⟨w0, hw0⟩ : ∃ w0, bw w2 (sector.extract 8 512) = w0 := ⟨_, rfl⟩
      obtain ⟨c3, hc3⟩ : ∃ c, grownCap w2 504 0 5 = c := ⟨_, rfl⟩
      obtain ⟨X, hX⟩ : ∃ X, bytesOf (sector.extract 8 512) = X := ⟨_, rfl⟩
      rw [hw0, hc3, hX] at HNew
      rw [hw0, hc3] at hcv
      rw [hw0] at HA2 HB3
      rw [hX] at HX
      clear hts hm hb2 hw0 hc3 hX
      go_wp2_with fail
      refine HNew.out.mono ?_; rintro e w4 ⟨g, rfl, hg, hr4, hb4⟩
      have hnx0 : Nx w0 (w4.alloc (.cells #[.pointer (some ⟨g, 0, none⟩)] 71)) w4.heap.size g (X, false) := ⟨hr4.below (below_alloc (Below.refl _ _) _), blk_new _ _, below_alloc hb4 _, hg, hr4.lt⟩
      have HNX := Lib.hid hnx0
      clear hr4 hg hb4 hnx0 hcv
      go_upto_region 5 with fail
      obtain ⟨W5, hW5⟩ : ∃ W, w4.alloc (.cells #[.pointer (some ⟨g, 0, none⟩)] 71) = W := ⟨_, rfl⟩
      obtain ⟨C, hC⟩ : ∃ C, w4.heap.size = C := ⟨_, rfl⟩
      rw [hW5, hC] at HNX
      rw [hW5, hC]
      clear hW5 hC HNew HA HBa
      go_wp2_with fail
      refine (nextSuper_calls w0 C g _ _ HNX.out).mono ?_; rintro e w6 ⟨rfl, hn6, hg6⟩
      obtain ⟨q1, hq1⟩ : ∃ q, rNext (X, false) = q := ⟨_, rfl⟩
      rw [hq1] at hn6 ⊢
      have HQ1 := Lib.hid hq1
      have HNX6 := Lib.hid hn6
      clear hn6 hg6 hq1 hl hn1 HPre
      go_upto_region 6 with fail
      have HS1 : Hid (SupAt (w6.alloc (.cells (supC ⟨q1.1, 0, 0, zeroA, zeroA, 0, 0, 0, 0, 0, 0, 0⟩).toArray 33)) w6.heap.size ⟨q1.1, 0, 0, zeroA, zeroA, 0, 0, 0, 0, 0, 0, 0⟩) := Lib.hid (SupAt.new w6 _)
      have HNX7 := Lib.hid (HNX6.out.under (below_alloc (Below.refl w6.heap.size w6) (.cells (supC ⟨q1.1, 0, 0, zeroA, zeroA, 0, 0, 0, 0, 0, 0, 0⟩).toArray 33)))
      obtain ⟨W7, hW7⟩ : ∃ W, w6.alloc (.cells (supC ⟨q1.1, 0, 0, zeroA, zeroA, 0, 0, 0, 0, 0, 0, 0⟩).toArray 33) = W := ⟨_, rfl⟩
      have hCG := HNX6.out.lt
      rw [hW7] at HS1 HNX7
      rw [show w6.alloc (.cells #[.int .i64 q1.1, .int .i64 0, .int .u64 0, .int .i64 0, .int .i64 0, .int .i64 0, .bool false, .int .i64 0, .int .i64 0, .int .i64 0, .bool false, .int .i64 0, .int .i64 0, .int .i64 0, .int .i64 0, .int .i64 0, .int .i64 0, .int .i64 0] 33) = W7 from hW7]
      obtain ⟨G, hG⟩ : ∃ G, w6.heap.size = G := ⟨_, rfl⟩
      rw [hG] at HS1 hCG
      rw [hG]
      have HG7 : Hid (GS w0 W7 C g G q1.2 ⟨q1.1, 0, 0, zeroA, zeroA, 0, 0, 0, 0, 0, 0, 0⟩) := Lib.hid ⟨HNX7.out, HS1.out, hCG⟩
      clear hW7 hG hCG HS1 HNX7 HNX6 HNX
      have b7 := blk_cell HG7.out.nx.cell 0
      simp only [List.getElem?_toArray, List.getElem?_cons_succ, List.getElem?_cons_zero] at b7
      go_wp2_with fail
      refine (numQ_calls w0 C g q1.2 _ HG7.out.nx).mono ?_; rintro e w8 ⟨rfl, hn8, hg8⟩
      have HLT := Lib.hid (rNum_lt q1.2 HG7.out.nx.rdr.bytes)
      obtain ⟨q2, hq2⟩ : ∃ q, rNum q1.2 = q := ⟨_, rfl⟩
      rw [hq2] at hn8 HLT ⊢
      have HQ2 := Lib.hid hq2
      have HG8 := Lib.hid (HG7.out.read hn8 hg8)
      clear hn8 hg8 hq2 b7
      obtain ⟨c0, c1, c2, c3, c4, c5, c6, c7, c8, c9, c10, c11, c12, c13, c14, c15, c16, c17⟩ := HG8.out.sup.cells
      have f2 := blk_frozen HG8.out.sup 2
      go_upto_region 7 with fail
      have HG9 := Lib.hid (HG8.out.set 2 (.int .u64 (q2.1 : Int)) (s' := ⟨q1.1, q2.1, 0, zeroA, zeroA, 0, 0, 0, 0, 0, 0, 0⟩) rfl)
      obtain ⟨W9, hW9⟩ : ∃ W, w8.setCell ⟨G, 2, none⟩ (.int .u64 (q2.1 : Int)) = W := ⟨_, rfl⟩
      rw [hW9] at HG9
      rw [hW9]
      clear hW9 c0 c1 c2 c3 c4 c5 c6 c7 c8 c9 c10 c11 c12 c13 c14 c15 c16 c17 f2
      go_wp2_with fail
      refine (nextSuper_calls w0 C g q2.2 _ HG9.out.nx).mono ?_; rintro e w10 ⟨rfl, hn10, hg10⟩
      obtain ⟨q3, hq3⟩ : ∃ q, rNext q2.2 = q := ⟨_, rfl⟩
      rw [hq3] at hn10 ⊢
      have HQ3 := Lib.hid hq3
      have HG10 := Lib.hid (HG9.out.read hn10 hg10)
      clear hn10 hg10 hq3
      obtain ⟨c0, c1, c2, c3, c4, c5, c6, c7, c8, c9, c10, c11, c12, c13, c14, c15, c16, c17⟩ := HG10.out.sup.cells
      have f1 := blk_frozen HG10.out.sup 1
      go_upto_region 8 with fail
      have HG11 := Lib.hid (HG10.out.set 1 (.int .i64 q3.1) (s' := ⟨q1.1, q2.1, q3.1, zeroA, zeroA, 0, 0, 0, 0, 0, 0, 0⟩) rfl)
      obtain ⟨W11, hW11⟩ : ∃ W, w10.setCell ⟨G, 1, none⟩ (.int .i64 q3.1) = W := ⟨_, rfl⟩
      rw [hW11] at HG11
      rw [hW11]
      clear hW11 c0 c1 c2 c3 c4 c5 c6 c7 c8 c9 c10 c11 c12 c13 c14 c15 c16 c17 f1
      obtain ⟨a, ha⟩ : ∃ a, q1.1 = a := ⟨_, rfl⟩
      obtain ⟨b, hb⟩ : ∃ b, q2.1 = b := ⟨_, rfl⟩
      obtain ⟨c, hc⟩ : ∃ c, q3.1 = c := ⟨_, rfl⟩
      obtain ⟨t, ht⟩ : ∃ t, q3.2 = t := ⟨_, rfl⟩
      rw [ha, hb, hc, ht] at HG11
      rw [hb] at HLT
      have Ha := Lib.hid ha
      have Hb := Lib.hid hb
      have Hc := Lib.hid hc
      have Ht := Lib.hid ht
      clear ha hb hc ht
      go_wp2_with fail
      go_loopw [37] (fun iv W => ∃ i : Nat, i ≤ 2 ∧ iv = .int .i64 (i : Int) ∧ Aside0 (GS w0 W C g G (stI t i) (supI a b c t i))) (fun iv _ => 2 - (intOf iv).toNat)
      case atStart => exact ⟨0, by omega, rfl, ⟨HG11.out⟩⟩
      case round =>
        obtain ⟨i, hi, rfl, ⟨hp⟩⟩ := hrel
        have hi3 : i = 0 ∨ i = 1 ∨ i = 2 := by omega
        rcases hi3 with rfl | rfl | rfl
        ·
          have hp0 : GS w0 wr C g G t ⟨a, b, c, zeroA, zeroA, 0, 0, 0, 0, 0, 0, 0⟩ := hp
          obtain ⟨t0, ht0⟩ : ∃ s, t = s := ⟨_, rfl⟩
          rw [ht0] at hp0
          have HT0 := Lib.hid ht0
          clear ht0
          have HG0 := Lib.hid hp0
          clear hp hp0
          go_wp2_with fail
          refine (nextSuper_calls w0 C g t0 _ HG0.out.nx).mono ?_; rintro e wa ⟨rfl, hna, hga⟩
          obtain ⟨o, ho⟩ : ∃ q, rNext t0 = q := ⟨_, rfl⟩
          rw [ho] at hna ⊢
          have HEo := Lib.hid ho
          have HGa := Lib.hid (HG0.out.read hna hga)
          clear ho hna hga
          have ba := blk_cell HGa.out.nx.cell 0
          simp only [List.getElem?_toArray, List.getElem?_cons_succ, List.getElem?_cons_zero] at ba
          go_upto_region 12 with fail
          refine start_ (n := 15) (S := fun w' => w'.cell? ⟨C, 0, none⟩ = some (.pointer (some ⟨g, 0, none⟩))) (ds := [14]) #[false, false, false, false, false, false, false, false, false, false, false, false, false, false, false] (by kernel_rfl) rfl rfl (ba) (fun hHeld => ?_)
          refine pure_ (i := 0) (N := some 42) (v := ?_) (a' := ?_) #[true, false, false, false, false, false, false, false, false, false, false, false, false, false, false] rfl rfl (by kernel_rfl) (fun _ _ _ h => h) (Or.inl ⟨by rfl, ?_⟩) ?_ ?_
          rotate_left
          · intro w'
            go_simp
            with_reducible rfl
          rotate_left
          · simp only [Act.put, List.setIfInBounds_toArray, List.set_cons_zero, List.set_cons_succ, i64_w, i32_w]
            rfl
          refine pure_ (i := 1) (N := some 43) (v := ?_) (a' := ?_) #[true, true, false, false, false, false, false, false, false, false, false, false, false, false, false] rfl rfl (by kernel_rfl) (fun _ _ _ h => h) (Or.inl ⟨by rfl, ?_⟩) ?_ ?_
          rotate_left
          · intro w'
            go_simp
            with_reducible rfl
          rotate_left
          · simp only [Act.put, List.setIfInBounds_toArray, List.set_cons_zero, List.set_cons_succ, i64_w, i32_w]
            rfl
          refine pure_ (i := 2) (N := some 44) (v := ?_) (a' := ?_) #[true, true, true, false, false, false, false, false, false, false, false, false, false, false, false] rfl rfl (by kernel_rfl) (fun _ _ _ h => h) (Or.inl ⟨by rfl, ?_⟩) ?_ ?_
          rotate_left
          · intro w'
            go_simp
            with_reducible rfl
          rotate_left
          · simp only [Act.put, List.setIfInBounds_toArray, List.set_cons_zero, List.set_cons_succ, i64_w, i32_w]
            rfl
          refine pure_ (i := 11) (N := some 53) (v := ?_) (a' := ?_) #[true, true, true, false, false, false, false, false, false, false, false, true, false, false, false] rfl rfl (by kernel_rfl) (fun _ _ _ h => h) (Or.inl ⟨by rfl, ?_⟩) ?_ ?_
          rotate_left
          · intro w'
            go_simp
            with_reducible rfl
          rotate_left
          · simp only [Act.put, List.setIfInBounds_toArray, List.set_cons_zero, List.set_cons_succ, i64_w, i32_w]
            rfl
          refine pure_ (i := 12) (N := some 54) (v := ?_) (a' := ?_) #[true, true, true, false, false, false, false, false, false, false, false, true, true, false, false] rfl rfl (by kernel_rfl) (fun _ _ _ h => h) (Or.inl ⟨by rfl, ?_⟩) ?_ ?_
          rotate_left
          · intro w'
            go_simp
            with_reducible rfl
          rotate_left
          · simp only [Act.put, List.setIfInBounds_toArray, List.set_cons_zero, List.set_cons_succ, i64_w, i32_w]
            rfl
          refine take_ (i := 3) (N := some 45) (v := ?_) (a' := ?_) #[true, true, true, true, false, false, false, false, false, false, false, true, true, false, false] rfl rfl (by kernel_rfl) (fun _ _ _ h => h) (Or.inl ⟨by rfl, ?_⟩) hHeld ?_ ?_
          rotate_left
          · intro w' s0
            go_simp
            with_reducible rfl
          rotate_left
          · simp only [Act.put, List.setIfInBounds_toArray, List.set_cons_zero, List.set_cons_succ, i64_w, i32_w]
            rfl
          refine take_ (i := 5) (N := some 47) (v := ?_) (a' := ?_) #[true, true, true, true, false, true, false, false, false, false, false, true, true, false, false] rfl rfl (by kernel_rfl) (fun _ _ _ h => h) (Or.inl ⟨by rfl, ?_⟩) hHeld ?_ ?_
          rotate_left
          · intro w' s0
            go_simp
            with_reducible rfl
          rotate_left
          · simp only [Act.put, List.setIfInBounds_toArray, List.set_cons_zero, List.set_cons_succ, i64_w, i32_w]
            rfl
          refine take_ (i := 7) (N := some 49) (v := ?_) (a' := ?_) #[true, true, true, true, false, true, false, true, false, false, false, true, true, false, false] rfl rfl (by kernel_rfl) (fun _ _ _ h => h) (Or.inl ⟨by rfl, ?_⟩) hHeld ?_ ?_
          rotate_left
          · intro w' s0
            go_simp
            with_reducible rfl
          rotate_left
          · simp only [Act.put, List.setIfInBounds_toArray, List.set_cons_zero, List.set_cons_succ, i64_w, i32_w]
            rfl
          refine one_ (i := 4) (N := some 46) #[true, true, true, true, true, true, false, true, false, false, false, true, true, false, false] rfl rfl (by kernel_rfl) (by decide) (fun K hK => ?_)
          refine goes_ Tryd.func33 (by kernel_rfl) rfl #[.pointer (some ⟨g, 0, none⟩)] (by rfl) rfl rfl (by simp only [List.map_toArray, List.map_cons, List.map_nil]; rfl) ?_
          with_reducible refine (intQ_calls w0 C g o.2 _ (HGa.out.under (below_drew (Below.refl _ _))).nx).mono ?_
          rintro e wx ⟨rfl, hnx, hgx⟩
          refine ⟨_, rfl, ?_⟩
          obtain ⟨x, hx⟩ : ∃ q, rInt' o.2 = q := ⟨_, rfl⟩
          rw [hx] at hnx ⊢
          have HEx := Lib.hid hx
          have HGx := Lib.hid ((HGa.out.under (below_drew (Below.refl _ _))).read hnx hgx)
          have bbx := blk_cell HGx.out.nx.cell 0
          simp only [List.getElem?_toArray, List.getElem?_cons_succ, List.getElem?_cons_zero] at bbx
          clear hx hnx hgx
          refine hK.out _ _ (bbx) (fun hHeld => ?_)
          clear hK K
          refine norm_ (a' := ?_) ?_ ?_
          rotate_left
          · show Act.put _ (some 46) _ = _
            simp only [Act.put, List.setIfInBounds_toArray, List.set_cons_zero, List.set_cons_succ, i64_w, i32_w]
            rfl
          refine one_ (i := 6) (N := some 48) #[true, true, true, true, true, true, true, true, false, false, false, true, true, false, false] rfl rfl (by kernel_rfl) (by decide) (fun K hK => ?_)
          refine goes_ Tryd.func33 (by kernel_rfl) rfl #[.pointer (some ⟨g, 0, none⟩)] (by rfl) rfl rfl (by simp only [List.map_toArray, List.map_cons, List.map_nil]; rfl) ?_
          with_reducible refine (intQ_calls w0 C g x.2 _ HGx.out.nx).mono ?_
          rintro e wy ⟨rfl, hny, hgy⟩
          refine ⟨_, rfl, ?_⟩
          obtain ⟨y, hy⟩ : ∃ q, rInt' x.2 = q := ⟨_, rfl⟩
          rw [hy] at hny ⊢
          have HEy := Lib.hid hy
          have HGy := Lib.hid (HGx.out.read hny hgy)
          have bby := blk_cell HGy.out.nx.cell 0
          simp only [List.getElem?_toArray, List.getElem?_cons_succ, List.getElem?_cons_zero] at bby
          clear hy hny hgy
          refine hK.out _ _ (bby) (fun hHeld => ?_)
          clear hK K
          refine norm_ (a' := ?_) ?_ ?_
          rotate_left
          · show Act.put _ (some 48) _ = _
            simp only [Act.put, List.setIfInBounds_toArray, List.set_cons_zero, List.set_cons_succ, i64_w, i32_w]
            rfl
          refine one_ (i := 8) (N := some 50) #[true, true, true, true, true, true, true, true, true, false, false, true, true, false, false] rfl rfl (by kernel_rfl) (by decide) (fun K hK => ?_)
          refine goes_ Tryd.func33 (by kernel_rfl) rfl #[.pointer (some ⟨g, 0, none⟩)] (by rfl) rfl rfl (by simp only [List.map_toArray, List.map_cons, List.map_nil]; rfl) ?_
          with_reducible refine (intQ_calls w0 C g y.2 _ HGy.out.nx).mono ?_
          rintro e wz ⟨rfl, hnz, hgz⟩
          refine ⟨_, rfl, ?_⟩
          obtain ⟨z, hz⟩ : ∃ q, rInt' y.2 = q := ⟨_, rfl⟩
          rw [hz] at hnz ⊢
          have HEz := Lib.hid hz
          have HGz := Lib.hid (HGy.out.read hnz hgz)
          have bbz := blk_cell HGz.out.nx.cell 0
          simp only [List.getElem?_toArray, List.getElem?_cons_succ, List.getElem?_cons_zero] at bbz
          clear hz hnz hgz
          obtain ⟨c0, c1, c2, c3, c4, c5, c6, c7, c8, c9, c10, c11, c12, c13, c14, c15, c16, c17⟩ := HGz.out.sup.cells
          have f3 := blk_frozen HGz.out.sup 3
          have f4 := blk_frozen HGz.out.sup 4
          have f5 := blk_frozen HGz.out.sup 5
          have f6 := blk_frozen HGz.out.sup 6
          refine hK.out _ _ (bbz) (fun hHeld => ?_)
          clear hK K
          refine norm_ (a' := ?_) ?_ ?_
          rotate_left
          · show Act.put _ (some 50) _ = _
            simp only [Act.put, List.setIfInBounds_toArray, List.set_cons_zero, List.set_cons_succ, i64_w, i32_w]
            rfl
          refine pure_ (i := 9) (N := some 51) (v := ?_) (a' := ?_) #[true, true, true, true, true, true, true, true, true, true, false, true, true, false, false] rfl rfl (by kernel_rfl) (fun _ _ _ h => h) (Or.inl ⟨by rfl, ?_⟩) ?_ ?_
          rotate_left
          · intro w'
            go_simp
            with_reducible rfl
          rotate_left
          · simp only [Act.put, List.setIfInBounds_toArray, List.set_cons_zero, List.set_cons_succ, i64_w, i32_w]
            rfl
          refine pure_ (i := 10) (N := some 52) (v := ?_) (a' := ?_) #[true, true, true, true, true, true, true, true, true, true, true, true, true, false, false] rfl rfl (by kernel_rfl) (fun _ _ _ h => h) (Or.inl ⟨by rfl, ?_⟩) ?_ ?_
          rotate_left
          · intro w'
            go_simp
            with_reducible rfl
          rotate_left
          · simp only [Act.put, List.setIfInBounds_toArray, List.set_cons_zero, List.set_cons_succ, i64_w, i32_w]
            rfl
          refine pure_ (i := 13) (N := some 55) (v := ?_) (a' := ?_) #[true, true, true, true, true, true, true, true, true, true, true, true, true, true, false] rfl rfl (by kernel_rfl) (fun _ _ _ h => h) (Or.inl ⟨by rfl, ?_⟩) ?_ ?_
          rotate_left
          · intro w'
            go_simp
            with_reducible rfl
          rotate_left
          · simp only [Act.put, List.setIfInBounds_toArray, List.set_cons_zero, List.set_cons_succ, i64_w, i32_w]
            rfl
          refine last_ (i := 14) (N := none) #[true, true, true, true, true, true, true, true, true, true, true, true, true, true, true] rfl rfl (by kernel_rfl) (by decide) (fun K hK => ?_)
          refine skip_ (w1 := ?_) (by rfl) rfl ?_ ?_
          rotate_left
          · go_simp
            rfl
          refine hK.out _ _ ?_
          clear hK K
          refine done_ (by kernel_rfl) ?_
          have K1 := HGz.out.set 3 (.int .i64 x.1) (s' := (⟨a, b, c, ⟨zeroA.on, x.1, zeroA.y, zeroA.z⟩, zeroA, 0, 0, 0, 0, 0, 0, 0⟩ : Sup)) rfl
          have K2 := K1.set 4 (.int .i64 y.1) (s' := (⟨a, b, c, ⟨zeroA.on, x.1, y.1, zeroA.z⟩, zeroA, 0, 0, 0, 0, 0, 0, 0⟩ : Sup)) rfl
          have K3 := K2.set 5 (.int .i64 z.1) (s' := (⟨a, b, c, ⟨zeroA.on, x.1, y.1, z.1⟩, zeroA, 0, 0, 0, 0, 0, 0, 0⟩ : Sup)) rfl
          have K4 := K3.set 6 (.bool (o.1 == 1)) (s' := (⟨a, b, c, ⟨(decide (o.1 = 1)), x.1, y.1, z.1⟩, zeroA, 0, 0, 0, 0, 0, 0, 0⟩ : Sup)) rfl
          have HK4 := Lib.hid K4
          clear K1 K2 K3 K4 ba
          have HRA : Hid (readA t0 = (⟨decide (o.1 = 1), x.1, y.1, z.1⟩, z.2)) := Lib.hid (by unfold readA; simp only [HEo.out, HEx.out, HEy.out, HEz.out])
          go_wp2_with fail
          go_roundw
          case rel => exact ⟨1, by omega, rfl, ⟨by show GS w0 _ C g G (readA t).2 ⟨a, b, c, (readA t).1, zeroA, 0, 0, 0, 0, 0, 0, 0⟩; rw [HT0.out, HRA.out]; exact HK4.out⟩⟩
          case measure => simp [intOf]
        ·
          have hp0 : GS w0 wr C g G (readA t).2 ⟨a, b, c, (readA t).1, zeroA, 0, 0, 0, 0, 0, 0, 0⟩ := hp
          obtain ⟨A0, hA0⟩ : ∃ A, (readA t).1 = A := ⟨_, rfl⟩
          obtain ⟨t0, ht0⟩ : ∃ s, (readA t).2 = s := ⟨_, rfl⟩
          rw [hA0, ht0] at hp0
          have HA0 := Lib.hid hA0
          have HT0 := Lib.hid ht0
          clear hA0 ht0
          have HG0 := Lib.hid hp0
          clear hp hp0
          go_wp2_with fail
          refine (nextSuper_calls w0 C g t0 _ HG0.out.nx).mono ?_; rintro e wa ⟨rfl, hna, hga⟩
          obtain ⟨o, ho⟩ : ∃ q, rNext t0 = q := ⟨_, rfl⟩
          rw [ho] at hna ⊢
          have HEo := Lib.hid ho
          have HGa := Lib.hid (HG0.out.read hna hga)
          clear ho hna hga
          have ba := blk_cell HGa.out.nx.cell 0
          simp only [List.getElem?_toArray, List.getElem?_cons_succ, List.getElem?_cons_zero] at ba
          go_upto_region 12 with fail
          refine start_ (n := 15) (S := fun w' => w'.cell? ⟨C, 0, none⟩ = some (.pointer (some ⟨g, 0, none⟩))) (ds := [14]) #[false, false, false, false, false, false, false, false, false, false, false, false, false, false, false] (by kernel_rfl) rfl rfl (ba) (fun hHeld => ?_)
          refine pure_ (i := 0) (N := some 42) (v := ?_) (a' := ?_) #[true, false, false, false, false, false, false, false, false, false, false, false, false, false, false] rfl rfl (by kernel_rfl) (fun _ _ _ h => h) (Or.inl ⟨by rfl, ?_⟩) ?_ ?_
          rotate_left
          · intro w'
            go_simp
            with_reducible rfl
          rotate_left
          · simp only [Act.put, List.setIfInBounds_toArray, List.set_cons_zero, List.set_cons_succ, i64_w, i32_w]
            rfl
          refine pure_ (i := 1) (N := some 43) (v := ?_) (a' := ?_) #[true, true, false, false, false, false, false, false, false, false, false, false, false, false, false] rfl rfl (by kernel_rfl) (fun _ _ _ h => h) (Or.inl ⟨by rfl, ?_⟩) ?_ ?_
          rotate_left
          · intro w'
            go_simp
            with_reducible rfl
          rotate_left
          · simp only [Act.put, List.setIfInBounds_toArray, List.set_cons_zero, List.set_cons_succ, i64_w, i32_w]
            rfl
          refine pure_ (i := 2) (N := some 44) (v := ?_) (a' := ?_) #[true, true, true, false, false, false, false, false, false, false, false, false, false, false, false] rfl rfl (by kernel_rfl) (fun _ _ _ h => h) (Or.inl ⟨by rfl, ?_⟩) ?_ ?_
          rotate_left
          · intro w'
            go_simp
            with_reducible rfl
          rotate_left
          · simp only [Act.put, List.setIfInBounds_toArray, List.set_cons_zero, List.set_cons_succ, i64_w, i32_w]
            rfl
          refine pure_ (i := 11) (N := some 53) (v := ?_) (a' := ?_) #[true, true, true, false, false, false, false, false, false, false, false, true, false, false, false] rfl rfl (by kernel_rfl) (fun _ _ _ h => h) (Or.inl ⟨by rfl, ?_⟩) ?_ ?_
          rotate_left
          · intro w'
            go_simp
            with_reducible rfl
          rotate_left
          · simp only [Act.put, List.setIfInBounds_toArray, List.set_cons_zero, List.set_cons_succ, i64_w, i32_w]
            rfl
          refine pure_ (i := 12) (N := some 54) (v := ?_) (a' := ?_) #[true, true, true, false, false, false, false, false, false, false, false, true, true, false, false] rfl rfl (by kernel_rfl) (fun _ _ _ h => h) (Or.inl ⟨by rfl, ?_⟩) ?_ ?_
          rotate_left
          · intro w'
            go_simp
            with_reducible rfl
          rotate_left
          · simp only [Act.put, List.setIfInBounds_toArray, List.set_cons_zero, List.set_cons_succ, i64_w, i32_w]
            rfl
          refine take_ (i := 3) (N := some 45) (v := ?_) (a' := ?_) #[true, true, true, true, false, false, false, false, false, false, false, true, true, false, false] rfl rfl (by kernel_rfl) (fun _ _ _ h => h) (Or.inl ⟨by rfl, ?_⟩) hHeld ?_ ?_
          rotate_left
          · intro w' s0
            go_simp
            with_reducible rfl
          rotate_left
          · simp only [Act.put, List.setIfInBounds_toArray, List.set_cons_zero, List.set_cons_succ, i64_w, i32_w]
            rfl
          refine take_ (i := 5) (N := some 47) (v := ?_) (a' := ?_) #[true, true, true, true, false, true, false, false, false, false, false, true, true, false, false] rfl rfl (by kernel_rfl) (fun _ _ _ h => h) (Or.inl ⟨by rfl, ?_⟩) hHeld ?_ ?_
          rotate_left
          · intro w' s0
            go_simp
            with_reducible rfl
          rotate_left
          · simp only [Act.put, List.setIfInBounds_toArray, List.set_cons_zero, List.set_cons_succ, i64_w, i32_w]
            rfl
          refine take_ (i := 7) (N := some 49) (v := ?_) (a' := ?_) #[true, true, true, true, false, true, false, true, false, false, false, true, true, false, false] rfl rfl (by kernel_rfl) (fun _ _ _ h => h) (Or.inl ⟨by rfl, ?_⟩) hHeld ?_ ?_
          rotate_left
          · intro w' s0
            go_simp
            with_reducible rfl
          rotate_left
          · simp only [Act.put, List.setIfInBounds_toArray, List.set_cons_zero, List.set_cons_succ, i64_w, i32_w]
            rfl
          refine one_ (i := 4) (N := some 46) #[true, true, true, true, true, true, false, true, false, false, false, true, true, false, false] rfl rfl (by kernel_rfl) (by decide) (fun K hK => ?_)
          refine goes_ Tryd.func33 (by kernel_rfl) rfl #[.pointer (some ⟨g, 0, none⟩)] (by rfl) rfl rfl (by simp only [List.map_toArray, List.map_cons, List.map_nil]; rfl) ?_
          with_reducible refine (intQ_calls w0 C g o.2 _ (HGa.out.under (below_drew (Below.refl _ _))).nx).mono ?_
          rintro e wx ⟨rfl, hnx, hgx⟩
          refine ⟨_, rfl, ?_⟩
          obtain ⟨x, hx⟩ : ∃ q, rInt' o.2 = q := ⟨_, rfl⟩
          rw [hx] at hnx ⊢
          have HEx := Lib.hid hx
          have HGx := Lib.hid ((HGa.out.under (below_drew (Below.refl _ _))).read hnx hgx)
          have bbx := blk_cell HGx.out.nx.cell 0
          simp only [List.getElem?_toArray, List.getElem?_cons_succ, List.getElem?_cons_zero] at bbx
          clear hx hnx hgx
          refine hK.out _ _ (bbx) (fun hHeld => ?_)
          clear hK K
          refine norm_ (a' := ?_) ?_ ?_
          rotate_left
          · show Act.put _ (some 46) _ = _
            simp only [Act.put, List.setIfInBounds_toArray, List.set_cons_zero, List.set_cons_succ, i64_w, i32_w]
            rfl
          refine one_ (i := 6) (N := some 48) #[true, true, true, true, true, true, true, true, false, false, false, true, true, false, false] rfl rfl (by kernel_rfl) (by decide) (fun K hK => ?_)
          refine goes_ Tryd.func33 (by kernel_rfl) rfl #[.pointer (some ⟨g, 0, none⟩)] (by rfl) rfl rfl (by simp only [List.map_toArray, List.map_cons, List.map_nil]; rfl) ?_
          with_reducible refine (intQ_calls w0 C g x.2 _ HGx.out.nx).mono ?_
          rintro e wy ⟨rfl, hny, hgy⟩
          refine ⟨_, rfl, ?_⟩
          obtain ⟨y, hy⟩ : ∃ q, rInt' x.2 = q := ⟨_, rfl⟩
          rw [hy] at hny ⊢
          have HEy := Lib.hid hy
          have HGy := Lib.hid (HGx.out.read hny hgy)
          have bby := blk_cell HGy.out.nx.cell 0
          simp only [List.getElem?_toArray, List.getElem?_cons_succ, List.getElem?_cons_zero] at bby
          clear hy hny hgy
          refine hK.out _ _ (bby) (fun hHeld => ?_)
          clear hK K
          refine norm_ (a' := ?_) ?_ ?_
          rotate_left
          · show Act.put _ (some 48) _ = _
            simp only [Act.put, List.setIfInBounds_toArray, List.set_cons_zero, List.set_cons_succ, i64_w, i32_w]
            rfl
          refine one_ (i := 8) (N := some 50) #[true, true, true, true, true, true, true, true, true, false, false, true, true, false, false] rfl rfl (by kernel_rfl) (by decide) (fun K hK => ?_)
          refine goes_ Tryd.func33 (by kernel_rfl) rfl #[.pointer (some ⟨g, 0, none⟩)] (by rfl) rfl rfl (by simp only [List.map_toArray, List.map_cons, List.map_nil]; rfl) ?_
          with_reducible refine (intQ_calls w0 C g y.2 _ HGy.out.nx).mono ?_
          rintro e wz ⟨rfl, hnz, hgz⟩
          refine ⟨_, rfl, ?_⟩
          obtain ⟨z, hz⟩ : ∃ q, rInt' y.2 = q := ⟨_, rfl⟩
          rw [hz] at hnz ⊢
          have HEz := Lib.hid hz
          have HGz := Lib.hid (HGy.out.read hnz hgz)
          have bbz := blk_cell HGz.out.nx.cell 0
          simp only [List.getElem?_toArray, List.getElem?_cons_succ, List.getElem?_cons_zero] at bbz
          clear hz hnz hgz
          obtain ⟨c0, c1, c2, c3, c4, c5, c6, c7, c8, c9, c10, c11, c12, c13, c14, c15, c16, c17⟩ := HGz.out.sup.cells
          have f7 := blk_frozen HGz.out.sup 7
          have f8 := blk_frozen HGz.out.sup 8
          have f9 := blk_frozen HGz.out.sup 9
          have f10 := blk_frozen HGz.out.sup 10
          refine hK.out _ _ (bbz) (fun hHeld => ?_)
          clear hK K
          refine norm_ (a' := ?_) ?_ ?_
          rotate_left
          · show Act.put _ (some 50) _ = _
            simp only [Act.put, List.setIfInBounds_toArray, List.set_cons_zero, List.set_cons_succ, i64_w, i32_w]
            rfl
          refine pure_ (i := 9) (N := some 51) (v := ?_) (a' := ?_) #[true, true, true, true, true, true, true, true, true, true, false, true, true, false, false] rfl rfl (by kernel_rfl) (fun _ _ _ h => h) (Or.inl ⟨by rfl, ?_⟩) ?_ ?_
          rotate_left
          · intro w'
            go_simp
            with_reducible rfl
          rotate_left
          · simp only [Act.put, List.setIfInBounds_toArray, List.set_cons_zero, List.set_cons_succ, i64_w, i32_w]
            rfl
          refine pure_ (i := 10) (N := some 52) (v := ?_) (a' := ?_) #[true, true, true, true, true, true, true, true, true, true, true, true, true, false, false] rfl rfl (by kernel_rfl) (fun _ _ _ h => h) (Or.inl ⟨by rfl, ?_⟩) ?_ ?_
          rotate_left
          · intro w'
            go_simp
            with_reducible rfl
          rotate_left
          · simp only [Act.put, List.setIfInBounds_toArray, List.set_cons_zero, List.set_cons_succ, i64_w, i32_w]
            rfl
          refine pure_ (i := 13) (N := some 55) (v := ?_) (a' := ?_) #[true, true, true, true, true, true, true, true, true, true, true, true, true, true, false] rfl rfl (by kernel_rfl) (fun _ _ _ h => h) (Or.inl ⟨by rfl, ?_⟩) ?_ ?_
          rotate_left
          · intro w'
            go_simp
            with_reducible rfl
          rotate_left
          · simp only [Act.put, List.setIfInBounds_toArray, List.set_cons_zero, List.set_cons_succ, i64_w, i32_w]
            rfl
          refine last_ (i := 14) (N := none) #[true, true, true, true, true, true, true, true, true, true, true, true, true, true, true] rfl rfl (by kernel_rfl) (by decide) (fun K hK => ?_)
          refine skip_ (w1 := ?_) (by rfl) rfl ?_ ?_
          rotate_left
          · go_simp
            rfl
          refine hK.out _ _ ?_
          clear hK K
          refine done_ (by kernel_rfl) ?_
          have K1 := HGz.out.set 7 (.int .i64 x.1) (s' := (⟨a, b, c, A0, ⟨zeroA.on, x.1, zeroA.y, zeroA.z⟩, 0, 0, 0, 0, 0, 0, 0⟩ : Sup)) rfl
          have K2 := K1.set 8 (.int .i64 y.1) (s' := (⟨a, b, c, A0, ⟨zeroA.on, x.1, y.1, zeroA.z⟩, 0, 0, 0, 0, 0, 0, 0⟩ : Sup)) rfl
          have K3 := K2.set 9 (.int .i64 z.1) (s' := (⟨a, b, c, A0, ⟨zeroA.on, x.1, y.1, z.1⟩, 0, 0, 0, 0, 0, 0, 0⟩ : Sup)) rfl
          have K4 := K3.set 10 (.bool (o.1 == 1)) (s' := (⟨a, b, c, A0, ⟨(decide (o.1 = 1)), x.1, y.1, z.1⟩, 0, 0, 0, 0, 0, 0, 0⟩ : Sup)) rfl
          have HK4 := Lib.hid K4
          clear K1 K2 K3 K4 ba
          have HRA : Hid (readA t0 = (⟨decide (o.1 = 1), x.1, y.1, z.1⟩, z.2)) := Lib.hid (by unfold readA; simp only [HEo.out, HEx.out, HEy.out, HEz.out])
          go_wp2_with fail
          go_roundw
          case rel => exact ⟨2, by omega, rfl, ⟨by show GS w0 _ C g G (readA (readA t).2).2 ⟨a, b, c, (readA t).1, (readA (readA t).2).1, 0, 0, 0, 0, 0, 0, 0⟩; rw [HA0.out, HT0.out, HRA.out]; exact HK4.out⟩⟩
          case measure => simp [intOf]
        · have hp0 : GS w0 wr C g G (readA (readA t).2).2 ⟨a, b, c, (readA t).1, (readA (readA t).2).1, 0, 0, 0, 0, 0, 0, 0⟩ := hp
          obtain ⟨A5, hA5⟩ : ∃ A, readA t = A := ⟨_, rfl⟩
          obtain ⟨B5, hB5⟩ : ∃ B, readA A5.2 = B := ⟨_, rfl⟩
          rw [hA5, hB5] at hp0
          have HA5 := Lib.hid hA5
          have HB5 := Lib.hid hB5
          obtain ⟨t5, ht5⟩ : ∃ s, B5.2 = s := ⟨_, rfl⟩
          rw [ht5] at hp0
          have HT5 := Lib.hid ht5
          have HG5 := Lib.hid hp0
          clear hp hp0 hA5 hB5 ht5
          go_wp2_with fail
          refine (nextSuper_calls w0 C g t5 _ HG5.out.nx).mono ?_; rintro e wd1 ⟨rfl, hnd1, hgd1⟩
          obtain ⟨d1, hd1⟩ : ∃ q, rNext t5 = q := ⟨_, rfl⟩
          rw [hd1] at hnd1 ⊢
          have HEd1 := Lib.hid hd1
          have HGd1 := Lib.hid (HG5.out.read hnd1 hgd1)
          clear hd1 hnd1 hgd1
          go_wp2_with fail
          refine (nextSuper_calls w0 C g d1.2 _ HGd1.out.nx).mono ?_; rintro e wd2 ⟨rfl, hnd2, hgd2⟩
          obtain ⟨d2, hd2⟩ : ∃ q, rNext d1.2 = q := ⟨_, rfl⟩
          rw [hd2] at hnd2 ⊢
          have HEd2 := Lib.hid hd2
          have HGd2 := Lib.hid (HGd1.out.read hnd2 hgd2)
          clear hd2 hnd2 hgd2
          go_wp2_with fail
          refine (nextSuper_calls w0 C g d2.2 _ HGd2.out.nx).mono ?_; rintro e wd3 ⟨rfl, hnd3, hgd3⟩
          obtain ⟨d3, hd3⟩ : ∃ q, rNext d2.2 = q := ⟨_, rfl⟩
          rw [hd3] at hnd3 ⊢
          have HEd3 := Lib.hid hd3
          have HGd3 := Lib.hid (HGd2.out.read hnd3 hgd3)
          clear hd3 hnd3 hgd3
          go_wp2_with fail
          refine (nextSuper_calls w0 C g d3.2 _ HGd3.out.nx).mono ?_; rintro e wd4 ⟨rfl, hnd4, hgd4⟩
          obtain ⟨d4, hd4⟩ : ∃ q, rNext d3.2 = q := ⟨_, rfl⟩
          rw [hd4] at hnd4 ⊢
          have HEd4 := Lib.hid hd4
          have HGd4 := Lib.hid (HGd3.out.read hnd4 hgd4)
          clear hd4 hnd4 hgd4
          obtain ⟨c0, c1, c2, c3, c4, c5, c6, c7, c8, c9, c10, c11, c12, c13, c14, c15, c16, c17⟩ := HGd4.out.sup.cells
          have f11 := blk_frozen HGd4.out.sup 11
          have f12 := blk_frozen HGd4.out.sup 12
          have f13 := blk_frozen HGd4.out.sup 13
          have f14 := blk_frozen HGd4.out.sup 14
          go_upto_region 16 with fail
          have K1 := HGd4.out.set 11 (.int .i64 d1.1) (s' := (⟨a, b, c, A5.1, B5.1, d1.1, 0, 0, 0, 0, 0, 0⟩ : Sup)) rfl
          have K2 := K1.set 12 (.int .i64 d2.1) (s' := (⟨a, b, c, A5.1, B5.1, d1.1, d2.1, 0, 0, 0, 0, 0⟩ : Sup)) rfl
          have K3 := K2.set 13 (.int .i64 d3.1) (s' := (⟨a, b, c, A5.1, B5.1, d1.1, d2.1, d3.1, 0, 0, 0, 0⟩ : Sup)) rfl
          have K4 := K3.set 14 (.int .i64 d4.1) (s' := (⟨a, b, c, A5.1, B5.1, d1.1, d2.1, d3.1, d4.1, 0, 0, 0⟩ : Sup)) rfl
          have HK := Lib.hid K4
          clear K1 K2 K3 K4 c0 c1 c2 c3 c4 c5 c6 c7 c8 c9 c10 c11 c12 c13 c14 c15 c16 c17 f11 f12 f13 f14
          obtain ⟨W8, hW8⟩ : ∃ W, (((wd4.setCell ⟨G, 11, none⟩ (.int .i64 d1.1)).setCell ⟨G, 12, none⟩ (.int .i64 d2.1)).setCell ⟨G, 13, none⟩ (.int .i64 d3.1)).setCell ⟨G, 14, none⟩ (.int .i64 d4.1) = W := ⟨_, rfl⟩
          rw [hW8] at HK
          rw [hW8]
          have HG8 := Lib.hid HK.out
          clear hW8 HK
          go_wp2_with fail
          refine (nextSuper_calls w0 C g d4.2 _ HG8.out.nx).mono ?_; rintro e we1 ⟨rfl, hne1, hge1⟩
          obtain ⟨e1, he1⟩ : ∃ q, rNext d4.2 = q := ⟨_, rfl⟩
          rw [he1] at hne1 ⊢
          have HEe1 := Lib.hid he1
          have HGe1 := Lib.hid (HG8.out.read hne1 hge1)
          clear he1 hne1 hge1
          go_wp2_with fail
          refine (nextSuper_calls w0 C g e1.2 _ HGe1.out.nx).mono ?_; rintro e we2 ⟨rfl, hne2, hge2⟩
          obtain ⟨e2, he2⟩ : ∃ q, rNext e1.2 = q := ⟨_, rfl⟩
          rw [he2] at hne2 ⊢
          have HEe2 := Lib.hid he2
          have HGe2 := Lib.hid (HGe1.out.read hne2 hge2)
          clear he2 hne2 hge2
          go_wp2_with fail
          refine (nextSuper_calls w0 C g e2.2 _ HGe2.out.nx).mono ?_; rintro e we3 ⟨rfl, hne3, hge3⟩
          obtain ⟨e3, he3⟩ : ∃ q, rNext e2.2 = q := ⟨_, rfl⟩
          rw [he3] at hne3 ⊢
          have HEe3 := Lib.hid he3
          have HGe3 := Lib.hid (HGe2.out.read hne3 hge3)
          clear he3 hne3 hge3
          obtain ⟨c0, c1, c2, c3, c4, c5, c6, c7, c8, c9, c10, c11, c12, c13, c14, c15, c16, c17⟩ := HGe3.out.sup.cells
          have f15 := blk_frozen HGe3.out.sup 15
          have f16 := blk_frozen HGe3.out.sup 16
          have f17 := blk_frozen HGe3.out.sup 17
          go_upto_region 17 with fail
          have K1 := HGe3.out.set 15 (.int .i64 e1.1) (s' := (⟨a, b, c, A5.1, B5.1, d1.1, d2.1, d3.1, d4.1, e1.1, 0, 0⟩ : Sup)) rfl
          have K2 := K1.set 16 (.int .i64 e2.1) (s' := (⟨a, b, c, A5.1, B5.1, d1.1, d2.1, d3.1, d4.1, e1.1, e2.1, 0⟩ : Sup)) rfl
          have K3 := K2.set 17 (.int .i64 e3.1) (s' := (⟨a, b, c, A5.1, B5.1, d1.1, d2.1, d3.1, d4.1, e1.1, e2.1, e3.1⟩ : Sup)) rfl
          have HK := Lib.hid K3
          clear K1 K2 K3 c0 c1 c2 c3 c4 c5 c6 c7 c8 c9 c10 c11 c12 c13 c14 c15 c16 c17 f15 f16 f17
          obtain ⟨W9, hW9⟩ : ∃ W, ((we3.setCell ⟨G, 15, none⟩ (.int .i64 e1.1)).setCell ⟨G, 16, none⟩ (.int .i64 e2.1)).setCell ⟨G, 17, none⟩ (.int .i64 e3.1) = W := ⟨_, rfl⟩
          rw [hW9] at HK
          rw [hW9]
          have HG9 := Lib.hid HK.out
          clear hW9 HK
          have HRS : Hid (readS X = (⟨a, b, c, A5.1, B5.1, d1.1, d2.1, d3.1, d4.1, e1.1, e2.1, e3.1⟩ : Sup)) := Lib.hid (by
            unfold readS
            simp only [HQ1.out, HQ2.out, HQ3.out, Ht.out, HA5.out, HB5.out, HT5.out, HEd1.out, HEd2.out, HEd3.out, HEd4.out, HEe1.out, HEe2.out, HEe3.out, Ha.out, Hb.out, Hc.out])
          obtain ⟨s, hs⟩ : ∃ s, (⟨a, b, c, A5.1, B5.1, d1.1, d2.1, d3.1, d4.1, e1.1, e2.1, e3.1⟩ : Sup) = s := ⟨_, rfl⟩
          have HSD : Hid (s.seed < 18446744073709551616) := Lib.hid (by rw [← hs]; exact HLT.out)
          rw [hs] at HG9 HRS
          clear hs
          have HBW : Hid (Below w.heap.size w W9) := Lib.hid (below_step HB3.out HG9.out.nx.below)
          have HAR := Lib.hid (HA2.out.below HG9.out.nx.below HA2.out.lt)
          have HRG : Hid (R < G) := Lib.hid (by have := HA2.out.lt; have := HG9.out.nx.g1; have := HG9.out.nx.g2; have := HG9.out.cG; omega)
          have HPut := Lib.hid (putSuper_calls s W9 HSD.out (HT.out.below HBW.out H0.out) (by have := HBW.out.size; have := H0.out; omega))
          go_wp2_with (refine wpList_load_mid rfl 33 (.tmp 6) rfl G 0 rfl (supC s) _ (sup_range HG9.out.sup) Tryd.underlying33 rfl sup_info ?_)
          refine HPut.out.mono ?_; rintro e w12 ⟨he, hb12⟩
          have HB12 := Lib.hid (below_step HBW.out hb12)
          have HAS := Lib.hid (HG9.out.sup.below hb12 HG9.out.sup.lt)
          have HA12 := Lib.hid (HAR.out.below hb12 HAR.out.lt)
          clear hb12
          cases hq : superB s with
          | false =>
            rw [hq, if_neg (by decide)] at he
            subst he
            have HF := Lib.hid (get_none HX.out HRS.out (.inl hq))
            clear hq HPut
            go_wp2_with (refine wpList_store_mid rfl 33 (.tmp 2) (.tmp 100) rfl R 0 (supC zeroS).toArray rfl rfl HA12.out.there sup_info (sup_one _) ?_)
            refine bodyPost_ret (results_cell2 rfl _ _ (a := ⟨R, 0, none⟩) rfl (load_sup (HA12.out.all zeroS))) rfl ?_
            exact ⟨.inr ⟨HF.out, rfl⟩, belowg HB12.out (gsets (supC zeroS) 0 _ (World.grownBy.refl _ _)) HB12.out.size (by rw [HRb.out]; exact Nat.le_refl _)⟩
          | true =>
            rw [hq, if_pos rfl] at he
            subst he
            have HK := Lib.hid ((superB_iff s HSD.out).1 hq)
            clear hq HPut
            by_cases heq : strOfNums (putS s) = sector
            · have hb1 : ((strOfNums (putS s)).toList == sector.toList) = true := BS.beq_of heq
              have hb2 : ((strOfNums (putS s)).toList != sector.toList) = false := by unfold bne; rw [hb1]; rfl
              have HE : Hid (putS s = bytesOf sector) := Lib.hid (by rw [← heq, BS.bytesOf_str _ (putS_bytes s HK.out)])
              clear heq
              go_wp2_with (first | (refine wpList_load_mid rfl 33 (.tmp 6) rfl G 0 rfl (supC s) _ (sup_range HAS.out) Tryd.underlying33 rfl sup_info ?_) | (refine wpList_store_mid rfl 33 (.tmp 2) (.tmp 101) rfl R 0 (supC s).toArray rfl rfl HA12.out.there sup_info (sup_one _) ?_))
              refine bodyPost_ret (results_cell2 rfl _ _ (a := ⟨R, 0, none⟩) rfl (load_sup (HA12.out.all s))) rfl ?_
              exact ⟨.inl ⟨s, HK.out, HE.out, rfl⟩, belowg HB12.out (gsets (supC s) 0 _ (World.grownBy.refl _ _)) HB12.out.size (by rw [HRb.out]; exact Nat.le_refl _)⟩
            · have hb1 : ((strOfNums (putS s)).toList == sector.toList) = false := BS.beq_not heq
              have hb2 : ((strOfNums (putS s)).toList != sector.toList) = true := by unfold bne; rw [hb1]; rfl
              have HF := Lib.hid (get_none HX.out HRS.out (.inr (fun e => heq (by rw [e, BS.str_bytesOf]))))
              clear heq
              go_wp2_with (refine wpList_store_mid rfl 33 (.tmp 2) (.tmp 100) rfl R 0 (supC zeroS).toArray rfl rfl HA12.out.there sup_info (sup_one _) ?_)
              refine bodyPost_ret (results_cell2 rfl _ _ (a := ⟨R, 0, none⟩) rfl (load_sup (HA12.out.all zeroS))) rfl ?_
              exact ⟨.inr ⟨HF.out, rfl⟩, belowg HB12.out (gsets (supC zeroS) 0 _ (World.grownBy.refl _ _)) HB12.out.size (by rw [HRb.out]; exact Nat.le_refl _)⟩
    · have HF := Lib.hid (pre_not (sector := sector) (fun _ h => hm h))
      have hdm := decide_eq_false hm
      have HAf := Lib.hid (HA.out.below hb2 HA.out.lt)
      have HB2 := Lib.hid (below_step HBa.out hb2)
      clear hm hb2
      go_wp2_with (refine wpList_store_mid rfl 33 (.tmp 2) (.tmp 20) rfl R 0 (supC zeroS).toArray rfl rfl HAf.out.there sup_info (sup_one _) ?_)
      refine bodyPost_ret (results_cell2 rfl _ _ (a := ⟨R, 0, none⟩) rfl (load_sup (HAf.out.all zeroS))) rfl ?_
      exact ⟨.inr ⟨HF.out, rfl⟩, belowg HB2.out (gsets (supC zeroS) 0 _ (World.grownBy.refl _ _)) HB2.out.size (by rw [HRb.out]; exact Nat.le_refl _)⟩
  · have hn1 : ((sector.size : Int) != 512) = true := by simp; omega
    have HF := Lib.hid (pre_not (sector := sector) (fun h _ => hl (by rw [← BS.size_bytesOf]; exact h)))
    go_wp2_with (refine wpList_store_mid rfl 33 (.tmp 2) (.tmp 20) rfl R 0 (supC zeroS).toArray rfl rfl HA.out.there sup_info (sup_one _) ?_)
    refine bodyPost_ret (results_cell2 rfl _ _ (a := ⟨R, 0, none⟩) rfl (load_sup (HA.out.all zeroS))) rfl ?_
    exact ⟨.inr ⟨HF.out, rfl⟩, belowg HBa.out (gsets (supC zeroS) 0 _ (World.grownBy.refl _ _)) HBa.out.size (by rw [HRb.out]; exact Nat.le_refl _)⟩
end Go.Proofs.YtijjecnmdhefbaaDoor.SP

namespace Go.Proofs.YtijjecnmdhefbaaDoor.SP
open Go.RowKit Go.Proofs.YtijjecnmdhefbaaDoorW.PrintWords Go.Proofs.YtijjecnmdhefbaaDoorW.PrintLast Go.Proofs.YtijjecnmdhefbaaDoorW.PrintMore Go.Proofs.YtijjecnmdhefbaaDoor.BR
set_option linter.unusedVariables false
set_option linter.unusedSimpArgs false
set_option maxRecDepth 100000
section
variable {ops : Array Oper} {rest : List Oper} {Q : Exit → Act → World → Prop} {a : Act} {W : World} {ty : TypeId} {pos : String} {af : Array Edge} {g : Option (Nat × Bool)}
theorem store_sup (x y : Nat) (s : Sup) {z : Sup} {G : Nat} (hx : a.eval (.tmp x) = .pointer (some ⟨G, 0, none⟩)) (hy : a.eval (.tmp y) = .agg (supC s).toArray) (hS : SupAt W G z)
    (h : wpList Tryd.prog ops Q rest (a.put none undef) (W.setCells G 0 (supC s))) : wpList Tryd.prog ops Q ({ dst := none, op := .store 33 (.tmp x) (.tmp y), type := ty, pos := pos, after := af, guard := none } :: rest) a W :=
  wpList_store_mid rfl 33 (.tmp x) (.tmp y) rfl G 0 (supC s).toArray hx hy hS.there sup_info (sup_one s) h
theorem load_supG (x : Nat) {d : Nat} (s : Sup) {G : Nat} {k : Nat} {b : Bool} (hw : Region.wanted { dst := some d, op := .load 33 (.tmp x), type := ty, pos := pos, after := af, guard := some (k, b) } (yielded ops a.tmps) = true) (hx : a.eval (.tmp x) = .pointer (some ⟨G, 0, none⟩)) (hS : SupAt W G s)
    (h : wpList Tryd.prog ops Q rest (a.put (some d) (.agg (supC s).toArray)) W) : wpList Tryd.prog ops Q ({ dst := some d, op := .load 33 (.tmp x), type := ty, pos := pos, after := af, guard := some (k, b) } :: rest) a W := by
  simp only [wpList]
  rw [if_pos hw]
  exact .inl (wp_load_mid 33 (.tmp x) rfl G 0 hx (supC s) _ (sup_range hS) Tryd.underlying33 rfl sup_info h)
theorem anc_info : ∃ i, Tryd.prog.info? 26 = some i := Option.isSome_iff_exists.1 (by kernel_rfl)
theorem eq_ancs (s : Sup) (W : World) : (Op.equalIn 9998 27 (.agg #[.int .i64 s.a.x, .int .i64 s.a.y, .int .i64 s.a.z, .bool s.a.on, .int .i64 s.b.x, .int .i64 s.b.y, .int .i64 s.b.z, .bool s.b.on]) (.agg #[.int .i64 s.a.x, .int .i64 s.a.y, .int .i64 s.a.z, .bool s.a.on, .int .i64 s.b.x, .int .i64 s.b.y, .int .i64 s.b.z, .bool s.b.on])).run Tryd.prog W = .ok true W := by
  obtain ⟨i, hi⟩ := anc_info
  rw [run_equalIn_array W 9997 _ _ Tryd.underlying27 hi, cellAnc, show List.range 2 = [0, 1] from rfl]
  simp only [Op.eqItems]
  go_simp
end
end Go.Proofs.YtijjecnmdhefbaaDoor.SP

namespace Go.Proofs.YtijjecnmdhefbaaDoor.RG
open Go.RowKit Go.Proofs.YtijjecnmdhefbaaDoorW.PrintWords Go.Proofs.YtijjecnmdhefbaaDoorW.PrintLast Go.Proofs.YtijjecnmdhefbaaDoorW.PrintMore Go.Proofs.YtijjecnmdhefbaaDoor.CD Go.Proofs.YtijjecnmdhefbaaDoor.BR Go.Proofs.YtijjecnmdhefbaaDoor.BP
set_option linter.unusedVariables false
set_option linter.unusedSimpArgs false
def two : List Ent := [(3, 9, 100, 0), (5, 10, 7, 300)]
def twoB : List Int := [2, 3, 9, 100, 0, 1, 10, 7, 172, 2]
theorem two_dir : dir two = .ok twoB := by kernel_rfl
theorem two_ents (w : World) : Ents (w.alloc (.cells #[.int .i64 3, .int .i64 9, .int .i64 100, .int .i64 0, .int .i64 5, .int .i64 10, .int .i64 7, .int .i64 300] 50)) (some ⟨w.heap.size, 0, none⟩) 2 two := by
  refine ⟨rfl, fun j hj => ⟨_, rfl, ?_⟩⟩
  have Hb := blk_new w (.cells #[.int .i64 3, .int .i64 9, .int .i64 100, .int .i64 0, .int .i64 5, .int .i64 10, .int .i64 7, .int .i64 300] 50)
  rcases (by omega : j = 0 ∨ j = 1) with rfl | rfl
  · exact ⟨blk_cell Hb 0, blk_cell Hb 1, blk_cell Hb 2, blk_cell Hb 3⟩
  · exact ⟨blk_cell Hb 4, blk_cell Hb 5, blk_cell Hb 6, blk_cell Hb 7⟩
theorem hcv24 {A : Option Addr} {c : Nat} {l : List Int} {W : World} (hr : ReadsInt W .u8 A l.length l) : (convert 41 9 (.slice A l.length c)).run Tryd.prog W = .ok (.string (strOfNums l)) W :=
  string_of_reads (c := c) (src := 41) Tryd.underlying41 Tryd.underlying5 Tryd.underlying9 hr
set_option maxHeartbeats 1000000 in
set_option maxRecDepth 100000 in
theorem works24 (w : World) : Calls Tryd.prog 10 #[] w fun e w' => e = .returned (.bool true) ∧ Below w.heap.size w w' := by
  have HE := Lib.hid two_ents
  have hdir := Lib.hid two_dir
  obtain ⟨L, hL⟩ : ∃ L, L = twoB := ⟨_, rfl⟩
  have ET : Hid (((strOfNums L).toList == ([2, 3, 9, 100, 0, 1, 10, 7, 172, 2] : List UInt8)) = true) := Lib.hid (by rw [hL]; decide +kernel)
  rw [← hL] at hdir
  clear hL
  go_enter Tryd.func10, Tryd.ntmps10
  go_wp2_with fail
  refine (put_region _ 2 _ two _ (Nat.le_refl _) (by omega) (HE.out _)).mono ?_
  rintro e w1 ⟨hd, hb⟩
  rw [hdir.out] at hd
  obtain ⟨v, rfl, ho⟩ := hd
  obtain ⟨A1, c1, rfl, hc1, hr1⟩ := ho.slice
  have HB1 := Lib.hid (below_step (below_alloc (Below.refl _ _) _) hb)
  have kz := hcv24 (c := c1) hr1
  have eT := ET.out
  clear hb ho hc1 hr1
  go_wp2
  go_ret
  exact ⟨rfl, HB1.out⟩
end Go.Proofs.YtijjecnmdhefbaaDoor.RG

namespace Go.Proofs.YtijjecnmdhefbaaDoor.SP
open Go.RowKit Go.Proofs.YtijjecnmdhefbaaDoorW.PrintWords Go.Proofs.YtijjecnmdhefbaaDoorW.PrintLast Go.Proofs.YtijjecnmdhefbaaDoorW.PrintMore Go.Proofs.YtijjecnmdhefbaaDoor.CD Go.Proofs.YtijjecnmdhefbaaDoor.BR Go.Proofs.YtijjecnmdhefbaaDoor.BP Go.Proofs.YtijjecnmdhefbaaDoor.RG
set_option linter.unusedVariables false
set_option linter.unusedSimpArgs false
set_option maxRecDepth 100000
theorem lims_ok : 0 ≤ lims.low ∧ lims.high ≤ 4611686018427387904 ∧ lims.now ≤ 4611686018427387904 ∧ lims.blob ≤ 4611686018427387904 := by unfold lims; decide
end Go.Proofs.YtijjecnmdhefbaaDoor.SP

namespace Go.Proofs.YtijjecnmdhefbaaDoor.SP
open Go.RowKit Go.Proofs.YtijjecnmdhefbaaDoorW.PrintWords Go.Proofs.YtijjecnmdhefbaaDoorW.PrintLast Go.Proofs.YtijjecnmdhefbaaDoorW.PrintMore Go.Proofs.YtijjecnmdhefbaaDoor.CD Go.Proofs.YtijjecnmdhefbaaDoor.BR Go.Proofs.YtijjecnmdhefbaaDoor.BP
set_option linter.unusedVariables false
set_option linter.unusedSimpArgs false
set_option maxRecDepth 100000
theorem rwithin_calls (a b n : Int) (w : World) : Calls Tryd.prog 50 #[.int .i64 n, .int .i64 a, .int .i64 b] w fun e w' => e = .returned (.bool (inB a b n)) ∧ Below w.heap.size w w' :=
  (PRegionSupers.bedrockref24_within.calls n a b _ w (show _ = some (inB a b n) by
    unfold PRegionSupers.bedrockref24_within.f inB
    by_cases h : n ≥ a
    · rw [if_pos h, decide_eq_true (show a ≤ n from h)]; rfl
    · rw [if_neg h, decide_eq_false (show ¬ a ≤ n from h)]; rfl)).mono fun e w' h => ⟨h.1, h.2.below⟩
theorem rw02 (n a b : Int) : PRegionSupers.bedrockref02_within.f n a b = some (decide (a ≤ n ∧ n < b)) := by
  unfold PRegionSupers.bedrockref02_within.f
  by_cases h : n ≥ a
  · rw [if_pos h]
    by_cases h2 : n < b
    · rw [decide_eq_true h2, decide_eq_true (show a ≤ n ∧ n < b by omega)]
    · rw [decide_eq_false h2, decide_eq_false (show ¬ (a ≤ n ∧ n < b) by omega)]
  · rw [if_neg h, decide_eq_false (show ¬ (a ≤ n ∧ n < b) by omega)]
theorem rspot_calls (x y z : Int) (w : World) : Calls Tryd.prog 51 #[.agg #[.int .i64 x, .int .i64 y, .int .i64 z]] w fun e w' => e = .returned (.bool (spotB x y z)) ∧ Below w.heap.size w w' :=
  PRegionSupers.bedrockref02_MaySpot.calls x y z _ w (by
    unfold PRegionSupers.bedrockref02_MaySpot.f spotB
    rw [rw02, rw02, rw02]
    simp only [Option.bind_some]
    by_cases h1 : -65536 ≤ x ∧ x < 65536
    · rw [decide_eq_true h1, if_pos rfl]
      by_cases h2 : -65536 ≤ z ∧ z < 65536
      · rw [decide_eq_true h2, if_pos rfl]; rfl
      · rw [decide_eq_false h2, if_neg (by decide)]; rfl
    · rw [decide_eq_false h1, if_neg (by decide)]; rfl)
set_option maxHeartbeats 8000000 in
theorem rsuper_calls (s : Sup) (w : World) :
    Calls Tryd.prog 23 #[.agg (supC s).toArray] w fun e w' => e = .returned (.bool (superB s)) ∧ Below w.heap.size w w' := by
  have HD := Lib.hid (show superB s = (inB 256 131072 s.sectors && (inB 0 1099511627776 s.now && (inB 0 4611686018427387904 s.saves && (ancOk s.a && (ancOk s.b && (inB 0 4611686018427387904 s.placed && (inB 0 4611686018427387904 s.broken && (inB 0 4611686018427387904 s.grown && (inB 0 4611686018427387904 s.burnt && rootB s))))))))) from rfl)
  have HI1 := Lib.hid (fun W => rwithin_calls 256 131072 s.sectors W)
  have HI2 := Lib.hid (fun W => rwithin_calls 0 1099511627776 s.now W)
  have HI3 := Lib.hid (fun W => rwithin_calls 0 4611686018427387904 s.saves W)
  have HI4 := Lib.hid (fun W => rwithin_calls 0 4611686018427387904 s.placed W)
  have HI5 := Lib.hid (fun W => rwithin_calls 0 4611686018427387904 s.broken W)
  have HI6 := Lib.hid (fun W => rwithin_calls 0 4611686018427387904 s.grown W)
  have HI7 := Lib.hid (fun W => rwithin_calls 0 4611686018427387904 s.burnt W)
  have HI8 := Lib.hid (fun W => rwithin_calls 1 (s.sectors - 1) s.head W)
  have HI9 := Lib.hid (fun W => rwithin_calls 1 65536 s.size W)
  go_enter Tryd.func23, Tryd.ntmps23
  have HA := Lib.hid (SupAt.new w s)
  have HB := Lib.hid (below_alloc (Below.refl w.heap.size w) (.cells (supC s).toArray 33))
  obtain ⟨c0, c1, c2, c3, c4, c5, c6, c7, c8, c9, c10, c11, c12, c13, c14, c15, c16, c17⟩ := HA.out.cells
  go_wp2_with fail
  refine (HI1.out _).mono ?_; rintro e w1 ⟨rfl, hb1⟩
  have HB1 := Lib.hid (below_step HB.out hb1)
  have HA1 := Lib.hid (HA.out.below hb1 HA.out.lt)
  clear hb1 c0 c1 c2 c3 c4 c5 c6 c7 c8 c9 c10 c11 c12 c13 c14 c15 c16 c17
  obtain ⟨c0, c1, c2, c3, c4, c5, c6, c7, c8, c9, c10, c11, c12, c13, c14, c15, c16, c17⟩ := HA1.out.cells
  cases h1 : inB 256 131072 s.sectors with
  | false =>
    have HF := Lib.hid (super_not (s := s) (by rw [HD.out, h1]; simp))
    go_wp2
    go_ret
    exact ⟨by rw [HF.out]; rfl, HB1.out⟩
  | true =>
    go_wp2_with fail
    refine (HI2.out _).mono ?_; rintro e w2 ⟨rfl, hb2⟩
    have HB2 := Lib.hid (below_step HB1.out hb2)
    have HA2 := Lib.hid (HA1.out.below hb2 HA1.out.lt)
    clear hb2 c0 c1 c2 c3 c4 c5 c6 c7 c8 c9 c10 c11 c12 c13 c14 c15 c16 c17
    obtain ⟨c0, c1, c2, c3, c4, c5, c6, c7, c8, c9, c10, c11, c12, c13, c14, c15, c16, c17⟩ := HA2.out.cells
    cases h2 : inB 0 1099511627776 s.now with
    | false =>
      have HF := Lib.hid (super_not (s := s) (by rw [HD.out, h2]; simp))
      go_wp2
      go_ret
      exact ⟨by rw [HF.out]; rfl, HB2.out⟩
    | true =>
      go_wp2_with fail
      refine (HI3.out _).mono ?_; rintro e w3 ⟨rfl, hb3⟩
      have HB3 := Lib.hid (below_step HB2.out hb3)
      have HA3 := Lib.hid (HA2.out.below hb3 HA2.out.lt)
      clear hb3 c0 c1 c2 c3 c4 c5 c6 c7 c8 c9 c10 c11 c12 c13 c14 c15 c16 c17
      obtain ⟨c0, c1, c2, c3, c4, c5, c6, c7, c8, c9, c10, c11, c12, c13, c14, c15, c16, c17⟩ := HA3.out.cells
      cases h3 : inB 0 4611686018427387904 s.saves with
      | false =>
        have HF := Lib.hid (super_not (s := s) (by rw [HD.out, h3]; simp))
        go_wp2
        go_ret
        exact ⟨by rw [HF.out]; rfl, HB3.out⟩
      | true =>
        go_wp2_with fail
        go_loopw [3] (fun iv W => ∃ i : Nat, i ≤ 2 ∧ iv = .int .i64 (i : Int) ∧ Aside0 (∀ j, j < i → ancOk (anc s j) = true) ∧ Aside0 (Below w3.heap.size w3 W)) (fun iv _ => 2 - (intOf iv).toNat)
        case atStart => exact ⟨0, by omega, rfl, ⟨fun j hj => by omega⟩, ⟨Below.refl _ _⟩⟩
        case round =>
          obtain ⟨i, hi, rfl, ⟨hok⟩, ⟨hb⟩⟩ := hrel
          have HBr := Lib.hid hb
          have HOK := Lib.hid hok
          have HAr := Lib.hid (HA3.out.below hb HA3.out.lt)
          clear hb hok c0 c1 c2 c3 c4 c5 c6 c7 c8 c9 c10 c11 c12 c13 c14 c15 c16 c17
          obtain ⟨c0, c1, c2, c3, c4, c5, c6, c7, c8, c9, c10, c11, c12, c13, c14, c15, c16, c17⟩ := HAr.out.cells
          have hi3 : i = 0 ∨ i = 1 ∨ i = 2 := by omega
          rcases hi3 with rfl | rfl | rfl
          ·
            have HN := Lib.hid (fun h : ancOk s.a = false => super_not (s := s) (by rw [HD.out, h]; simp))
            obtain ⟨⟨on, x, y, z⟩, hq⟩ : ∃ q, s.a = q := ⟨_, rfl⟩
            rw [hq] at c3 c4 c5 c6
            rw [hq] at HN
            have HQ := Lib.hid hq
            clear hq
            have HSP := Lib.hid (fun W => rspot_calls x y z W)
            simp only at c3 c4 c5 c6
            cases on with
            | true =>
              have HO := Lib.hid (show ancOk ⟨true, x, y, z⟩ = spotB x y z from rfl)
              go_wp2_with fail
              refine (HSP.out _).mono ?_; rintro e w4 ⟨rfl, hb4⟩
              have HB4 := Lib.hid (below_step (below_alloc HBr.out _) hb4)
              have Hbx := blk_below (blk_new wr (.cells #[.int .i64 x, .int .i64 y, .int .i64 z, .bool true] 26)) hb4
              have y3 := blk_cell Hbx 3
              simp only [List.getElem?_toArray, List.getElem?_cons_succ, List.getElem?_cons_zero] at y3
              clear hb4 Hbx
              cases hs : spotB x y z with
              | true =>
                have HO2 := Lib.hid (show ancOk (anc s 0) = true by show ancOk s.a = true; rw [HQ.out]; exact HO.out.trans hs)
                go_wp2
                go_roundw
                case rel => exact ⟨1, by omega, rfl, ⟨fun j hj => by
                  rcases Nat.lt_or_ge j 0 with h | h
                  · exact HOK.out j h
                  · obtain rfl : j = 0 := by omega
                    exact HO2.out⟩, ⟨HB4.out⟩⟩
                case measure => simp [intOf]
              | false =>
                have HF := Lib.hid (HN.out (HO.out.trans hs))
                go_wp2
                go_ret
                exact ⟨by rw [HF.out]; rfl, below_step HB3.out HB4.out⟩
            | false =>
              by_cases hz : x = 0 ∧ y = 0 ∧ z = 0
              · obtain ⟨rfl, rfl, rfl⟩ := hz
                have HO2 := Lib.hid (show ancOk (anc s 0) = true by show ancOk s.a = true; rw [HQ.out]; rfl)
                go_wp2
                go_roundw
                case rel => exact ⟨1, by omega, rfl, ⟨fun j hj => by
                  rcases Nat.lt_or_ge j 0 with h | h
                  · exact HOK.out j h
                  · obtain rfl : j = 0 := by omega
                    exact HO2.out⟩, ⟨below_alloc HBr.out _⟩⟩
                case measure => simp [intOf]
              · have HF := Lib.hid (HN.out (by unfold ancOk; simp; omega))
                have hz3 : x ≠ 0 ∨ (x = 0 ∧ y ≠ 0) ∨ (x = 0 ∧ y = 0 ∧ z ≠ 0) := by omega
                clear hz
                rcases hz3 with h1 | ⟨rfl, h2⟩ | ⟨rfl, rfl, h3⟩
                all_goals (go_wp2; go_ret; exact ⟨by rw [HF.out]; rfl, below_step HB3.out (below_alloc HBr.out _)⟩)
          ·
            have HN := Lib.hid (fun h : ancOk s.b = false => super_not (s := s) (by rw [HD.out, h]; simp))
            obtain ⟨⟨on, x, y, z⟩, hq⟩ : ∃ q, s.b = q := ⟨_, rfl⟩
            rw [hq] at c7 c8 c9 c10
            rw [hq] at HN
            have HQ := Lib.hid hq
            clear hq
            have HSP := Lib.hid (fun W => rspot_calls x y z W)
            simp only at c7 c8 c9 c10
            cases on with
            | true =>
              have HO := Lib.hid (show ancOk ⟨true, x, y, z⟩ = spotB x y z from rfl)
              go_wp2_with fail
              refine (HSP.out _).mono ?_; rintro e w4 ⟨rfl, hb4⟩
              have HB4 := Lib.hid (below_step (below_alloc HBr.out _) hb4)
              have Hbx := blk_below (blk_new wr (.cells #[.int .i64 x, .int .i64 y, .int .i64 z, .bool true] 26)) hb4
              have y3 := blk_cell Hbx 3
              simp only [List.getElem?_toArray, List.getElem?_cons_succ, List.getElem?_cons_zero] at y3
              clear hb4 Hbx
              cases hs : spotB x y z with
              | true =>
                have HO2 := Lib.hid (show ancOk (anc s 1) = true by show ancOk s.b = true; rw [HQ.out]; exact HO.out.trans hs)
                go_wp2
                go_roundw
                case rel => exact ⟨2, by omega, rfl, ⟨fun j hj => by
                  rcases Nat.lt_or_ge j 1 with h | h
                  · exact HOK.out j h
                  · obtain rfl : j = 1 := by omega
                    exact HO2.out⟩, ⟨HB4.out⟩⟩
                case measure => simp [intOf]
              | false =>
                have HF := Lib.hid (HN.out (HO.out.trans hs))
                go_wp2
                go_ret
                exact ⟨by rw [HF.out]; rfl, below_step HB3.out HB4.out⟩
            | false =>
              by_cases hz : x = 0 ∧ y = 0 ∧ z = 0
              · obtain ⟨rfl, rfl, rfl⟩ := hz
                have HO2 := Lib.hid (show ancOk (anc s 1) = true by show ancOk s.b = true; rw [HQ.out]; rfl)
                go_wp2
                go_roundw
                case rel => exact ⟨2, by omega, rfl, ⟨fun j hj => by
                  rcases Nat.lt_or_ge j 1 with h | h
                  · exact HOK.out j h
                  · obtain rfl : j = 1 := by omega
                    exact HO2.out⟩, ⟨below_alloc HBr.out _⟩⟩
                case measure => simp [intOf]
              · have HF := Lib.hid (HN.out (by unfold ancOk; simp; omega))
                have hz3 : x ≠ 0 ∨ (x = 0 ∧ y ≠ 0) ∨ (x = 0 ∧ y = 0 ∧ z ≠ 0) := by omega
                clear hz
                rcases hz3 with h1 | ⟨rfl, h2⟩ | ⟨rfl, rfl, h3⟩
                all_goals (go_wp2; go_ret; exact ⟨by rw [HF.out]; rfl, below_step HB3.out (below_alloc HBr.out _)⟩)
          ·
            have HOA : Hid (ancOk s.a = true) := Lib.hid (HOK.out 0 (by omega))
            have HOB : Hid (ancOk s.b = true) := Lib.hid (HOK.out 1 (by omega))
            have HBw := Lib.hid (below_step HB3.out HBr.out)
            go_upto_region 10 with fail
            have HL := Lib.hid (blk_new wr (.cells #[.int .i64 s.placed, .int .i64 s.broken, .int .i64 s.grown, .int .i64 s.burnt] 29))
            have HBl := Lib.hid (below_step HBw.out (below_alloc (Below.refl wr.heap.size wr) (.cells #[.int .i64 s.placed, .int .i64 s.broken, .int .i64 s.grown, .int .i64 s.burnt] 29)))
            have HAl := Lib.hid (HAr.out.below (below_alloc (Below.refl wr.heap.size wr) (.cells #[.int .i64 s.placed, .int .i64 s.broken, .int .i64 s.grown, .int .i64 s.burnt] 29)) HAr.out.lt)
            obtain ⟨W9, hW9⟩ : ∃ W, wr.alloc (.cells #[.int .i64 s.placed, .int .i64 s.broken, .int .i64 s.grown, .int .i64 s.burnt] 29) = W := ⟨_, rfl⟩
            obtain ⟨G, hG⟩ : ∃ G, wr.heap.size = G := ⟨_, rfl⟩
            rw [hW9] at HL HBl HAl
            rw [hG] at HL
            rw [hW9, hG]
            clear hW9 hG c0 c1 c2 c3 c4 c5 c6 c7 c8 c9 c10 c11 c12 c13 c14 c15 c16 c17
            obtain ⟨c0, c1, c2, c3, c4, c5, c6, c7, c8, c9, c10, c11, c12, c13, c14, c15, c16, c17⟩ := HAl.out.cells
            have z0 := blk_cell HL.out 0
            have z1 := blk_cell HL.out 1
            have z2 := blk_cell HL.out 2
            have z3 := blk_cell HL.out 3
            simp only [List.getElem?_toArray, List.getElem?_cons_succ, List.getElem?_cons_zero] at z0 z1 z2 z3
            go_wp2_with fail
            refine (HI4.out _).mono ?_; rintro e w4 ⟨rfl, hb4⟩
            have HB4 := Lib.hid (below_step HBl.out hb4)
            have HA4 := Lib.hid (HAl.out.below hb4 HAl.out.lt)
            have HL4 := Lib.hid (blk_below HL.out hb4)
            clear hb4 c0 c1 c2 c3 c4 c5 c6 c7 c8 c9 c10 c11 c12 c13 c14 c15 c16 c17
            obtain ⟨c0, c1, c2, c3, c4, c5, c6, c7, c8, c9, c10, c11, c12, c13, c14, c15, c16, c17⟩ := HA4.out.cells
            clear z0 z1 z2 z3
            have z0 := blk_cell HL4.out 0
            have z1 := blk_cell HL4.out 1
            have z2 := blk_cell HL4.out 2
            have z3 := blk_cell HL4.out 3
            simp only [List.getElem?_toArray, List.getElem?_cons_succ, List.getElem?_cons_zero] at z0 z1 z2 z3
            cases h4 : inB 0 4611686018427387904 s.placed with
            | false =>
              have HF := Lib.hid (super_not (s := s) (by rw [HD.out, h4]; simp))
              go_wp2
              go_ret
              exact ⟨by rw [HF.out]; rfl, HB4.out⟩
            | true =>
              go_wp2_with fail
              refine (HI5.out _).mono ?_; rintro e w5 ⟨rfl, hb5⟩
              have HB5 := Lib.hid (below_step HB4.out hb5)
              have HA5 := Lib.hid (HA4.out.below hb5 HA4.out.lt)
              have HL5 := Lib.hid (blk_below HL4.out hb5)
              clear hb5 c0 c1 c2 c3 c4 c5 c6 c7 c8 c9 c10 c11 c12 c13 c14 c15 c16 c17
              obtain ⟨c0, c1, c2, c3, c4, c5, c6, c7, c8, c9, c10, c11, c12, c13, c14, c15, c16, c17⟩ := HA5.out.cells
              clear z0 z1 z2 z3
              have z0 := blk_cell HL5.out 0
              have z1 := blk_cell HL5.out 1
              have z2 := blk_cell HL5.out 2
              have z3 := blk_cell HL5.out 3
              simp only [List.getElem?_toArray, List.getElem?_cons_succ, List.getElem?_cons_zero] at z0 z1 z2 z3
              cases h5 : inB 0 4611686018427387904 s.broken with
              | false =>
                have HF := Lib.hid (super_not (s := s) (by rw [HD.out, h5]; simp))
                go_wp2
                go_ret
                exact ⟨by rw [HF.out]; rfl, HB5.out⟩
              | true =>
                go_wp2_with fail
                refine (HI6.out _).mono ?_; rintro e w6 ⟨rfl, hb6⟩
                have HB6 := Lib.hid (below_step HB5.out hb6)
                have HA6 := Lib.hid (HA5.out.below hb6 HA5.out.lt)
                have HL6 := Lib.hid (blk_below HL5.out hb6)
                clear hb6 c0 c1 c2 c3 c4 c5 c6 c7 c8 c9 c10 c11 c12 c13 c14 c15 c16 c17
                obtain ⟨c0, c1, c2, c3, c4, c5, c6, c7, c8, c9, c10, c11, c12, c13, c14, c15, c16, c17⟩ := HA6.out.cells
                clear z0 z1 z2 z3
                have z0 := blk_cell HL6.out 0
                have z1 := blk_cell HL6.out 1
                have z2 := blk_cell HL6.out 2
                have z3 := blk_cell HL6.out 3
                simp only [List.getElem?_toArray, List.getElem?_cons_succ, List.getElem?_cons_zero] at z0 z1 z2 z3
                cases h6 : inB 0 4611686018427387904 s.grown with
                | false =>
                  have HF := Lib.hid (super_not (s := s) (by rw [HD.out, h6]; simp))
                  go_wp2
                  go_ret
                  exact ⟨by rw [HF.out]; rfl, HB6.out⟩
                | true =>
                  go_wp2_with fail
                  refine (HI7.out _).mono ?_; rintro e w7 ⟨rfl, hb7⟩
                  have HB7 := Lib.hid (below_step HB6.out hb7)
                  have HA7 := Lib.hid (HA6.out.below hb7 HA6.out.lt)
                  have HL7 := Lib.hid (blk_below HL6.out hb7)
                  clear hb7 c0 c1 c2 c3 c4 c5 c6 c7 c8 c9 c10 c11 c12 c13 c14 c15 c16 c17
                  obtain ⟨c0, c1, c2, c3, c4, c5, c6, c7, c8, c9, c10, c11, c12, c13, c14, c15, c16, c17⟩ := HA7.out.cells
                  clear z0 z1 z2 z3
                  have z0 := blk_cell HL7.out 0
                  have z1 := blk_cell HL7.out 1
                  have z2 := blk_cell HL7.out 2
                  have z3 := blk_cell HL7.out 3
                  simp only [List.getElem?_toArray, List.getElem?_cons_succ, List.getElem?_cons_zero] at z0 z1 z2 z3
                  cases h7 : inB 0 4611686018427387904 s.burnt with
                  | false =>
                    have HF := Lib.hid (super_not (s := s) (by rw [HD.out, h7]; simp))
                    go_wp2
                    go_ret
                    exact ⟨by rw [HF.out]; rfl, HB7.out⟩
                  | true =>
                    have HR := Lib.hid (show superB s = rootB s by rw [HD.out, h1, h2, h3, HOA.out, HOB.out, h4, h5, h6, h7]; rfl)
                    have hs1 : wrap64 (s.sectors - 1) = s.sectors - 1 := by
                      unfold inB at h1
                      simp only [Bool.and_eq_true, decide_eq_true_eq] at h1
                      unfold wrap64
                      omega
                    clear z0 z1 z2 z3 h1 h2 h3 h4 h5 h6 h7
                    by_cases k1 : s.head = 0 ∧ s.size = 0
                    · have HF := Lib.hid (show superB s = true by rw [HR.out]; unfold rootB; rw [decide_eq_true k1.1, decide_eq_true k1.2]; rfl)
                      obtain ⟨k1, k2⟩ := k1
                      go_wp2
                      go_ret
                      exact ⟨by rw [HF.out]; rfl, HB7.out⟩
                    · have HF := Lib.hid (show superB s = (inB 1 (s.sectors - 1) s.head && inB 1 65536 s.size) by
                        rw [HR.out]; unfold rootB
                        have : (decide (s.head = 0) && decide (s.size = 0)) = false := by simp; omega
                        rw [this]; rfl)
                      have k2 : s.head ≠ 0 ∨ (s.head = 0 ∧ s.size ≠ 0) := by omega
                      obtain ⟨b1, m1⟩ : ∃ b, inB 1 (s.sectors - 1) s.head = b := ⟨_, rfl⟩
                      obtain ⟨b2, m2⟩ : ∃ b, inB 1 65536 s.size = b := ⟨_, rfl⟩
                      rw [m1] at HI8
                      rw [m2] at HI9
                      rw [m1, m2] at HF
                      clear m1 m2 k1
                      rcases k2 with k1 | ⟨k1, k2⟩
                      all_goals (
                        try rw [k1] at HI8
                        try have k3 : (s.size == 0) = false := beq_eq_false_iff_ne.2 k2
                        go_wp2_with fail
                        refine (HI8.out _).mono ?_; rintro e w8 ⟨rfl, hb8⟩
                        have HB8 := Lib.hid (below_step HB7.out hb8)
                        have HA8 := Lib.hid (HA7.out.below hb8 HA7.out.lt)
                        clear c0 c1 c2 c3 c4 c5 c6 c7 c8 c9 c10 c11 c12 c13 c14 c15 c16 c17 hb8
                        obtain ⟨c0, c1, c2, c3, c4, c5, c6, c7, c8, c9, c10, c11, c12, c13, c14, c15, c16, c17⟩ := HA8.out.cells
                        cases b1 with
                        | false =>
                          go_wp2
                          go_ret
                          exact ⟨by rw [HF.out]; rfl, HB8.out⟩
                        | true =>
                          go_wp2_with fail
                          refine (HI9.out _).mono ?_; rintro e w9 ⟨rfl, hb9⟩
                          have HB9 := Lib.hid (below_step HB8.out hb9)
                          clear hb9
                          go_wp2
                          go_ret
                          exact ⟨by rw [HF.out]; rfl, HB9.out⟩)
end Go.Proofs.YtijjecnmdhefbaaDoor.SP

namespace Go.Proofs.YtijjecnmdhefbaaDoor.CK
open Go.RowKit Go.Proofs.YtijjecnmdhefbaaDoorW.PrintWords Go.Proofs.YtijjecnmdhefbaaDoorW.PrintLast Go.Proofs.YtijjecnmdhefbaaDoorW.PrintMore Go.Proofs.YtijjecnmdhefbaaDoor.CD Go.Proofs.YtijjecnmdhefbaaDoor.BR Go.Proofs.YtijjecnmdhefbaaDoor.BP
set_option linter.unusedVariables false
set_option linter.unusedSimpArgs false
def bitN : Nat → Nat → Nat
  | 0, t => t
  | n + 1, t => bitN n (bit1 t)
theorem step_int (t : Nat) (ht : t < 4294967296) : (if Int.tmod (t : Int) 2 = 1 then Go.bits .xor .u32 ((Int.tdiv (t : Int) 2) % 4294967296) 2197175160 else (Int.tdiv (t : Int) 2) % 4294967296) = ((bit1 t : Nat) : Int) := by
  have e1 : Int.tmod (t : Int) 2 = ((t % 2 : Nat) : Int) := by rw [Int.tmod_eq_emod_of_nonneg (by omega)]; omega
  have e2 : (Int.tdiv (t : Int) 2) % 4294967296 = ((t / 2 : Nat) : Int) := by rw [Int.tdiv_eq_ediv_of_nonneg (by omega)]; omega
  rw [e1, e2]
  unfold bit1
  by_cases h : t % 2 = 1
  · rw [if_pos (by omega), if_pos h]
    exact i32_xor (t / 2) 2197175160 (by omega) (by decide)
  · rw [if_neg (by omega), if_neg h]
theorem more_l1 (l : List Int) (i : Int) : ∀ (d j k t : Nat), j + d = 8 → t < 4294967296 → PRegionSupers.bedrockref19_More.l1 (k + d + 1) l (t : Int) i (j : Int) = PRegionSupers.bedrockref19_More.l0 k l ((bitN d t : Nat) : Int) (wrap64 (i + 1))
  | 0, j, k, t, hj, ht => by
    rw [Nat.add_zero, PRegionSupers.bedrockref19_More.l1, if_neg (by omega)]
    rfl
  | d + 1, j, k, t, hj, ht => by
    have e : wrap64 ((j : Int) + 1) = ((j + 1 : Nat) : Int) := by unfold wrap64; omega
    have ih := more_l1 l i d (j + 1) k (bit1 t) (by omega) (bit1_lt t ht)
    rw [show k + (d + 1) + 1 = (k + d + 1) + 1 by omega, PRegionSupers.bedrockref19_More.l1, if_pos (by omega), e]
    have hs := step_int t ht
    by_cases h : Int.tmod (t : Int) 2 = 1
    · rw [if_pos h] at hs ⊢
      rw [hs]
      exact ih
    · rw [if_neg h] at hs ⊢
      rw [hs]
      exact ih
theorem more_l0 (l : List Int) (hb : Bytes l) (hl : l.length ≤ 140737488355328) : ∀ (d i k t : Nat), i + d = l.length → t < 4294967296 → PRegionSupers.bedrockref19_More.l0 (k + 10 * d + 1) l (t : Int) (i : Int) = some ((4294967295 - ((sumF t ((l.map Int.toNat).drop i) : Nat) : Int)) % 4294967296)
  | 0, i, k, t, hi, ht => by
    rw [Nat.mul_zero, Nat.add_zero, PRegionSupers.bedrockref19_More.l0, if_neg (by omega), List.drop_of_length_le (by rw [List.length_map]; omega)]
    rfl
  | d + 1, i, k, t, hi, ht => by
    have hil : i < l.length := by omega
    have hx := rd_bytes l hb i hil
    obtain ⟨b, hbx⟩ : ∃ b : Nat, rd l (i : Int) = (b : Int) := ⟨(rd l (i : Int)).toNat, by omega⟩
    rw [hbx] at hx
    have hb2 : b < 256 := by omega
    have e : wrap64 ((i : Int) + 1) = ((i + 1 : Nat) : Int) := by unfold wrap64; omega
    have e0 : (b : Int) % 4294967296 = (b : Int) := by omega
    have ih := more_l0 l hb hl d (i + 1) k (stepB t b) (by omega) (stepB_lt t b ht hb2)
    rw [show k + 10 * (d + 1) + 1 = (k + 10 * d + 1 + 8 + 1) + 1 by omega, PRegionSupers.bedrockref19_More.l0, if_pos (by omega), if_pos (by omega), hbx, e0, i32_xor t b ht (by omega)]
    have := more_l1 l (i : Int) 8 0 (k + 10 * d + 1) (t ^^^ b) rfl (xor_lt t b ht hb2)
    rw [show ((0 : Nat) : Int) = 0 from rfl] at this
    rw [this, e, show bitN 8 (t ^^^ b) = stepB t b from bit8 t b, ih, sum_next l t i b hil hbx]
theorem refsum_f (l : List Int) (hb : Bytes l) (hl : l.length ≤ 140737488355328) : PRegionSupers.bedrockref19_Sum.f (10 * l.length + 1) l = some ((SP.sumI l : Nat) : Int) := by
  unfold PRegionSupers.bedrockref19_Sum.f PRegionSupers.bedrockref19_More.f
  have h := more_l0 l hb hl l.length 0 0 4294967295 (by omega) (by decide)
  have e0 : (4294967295 - (0 : Int)) % 4294967296 = ((4294967295 : Nat) : Int) := rfl
  rw [Nat.zero_add, show ((0 : Nat) : Int) = 0 from rfl] at h
  rw [e0, h]
  have hlt : sumF 4294967295 (l.map Int.toNat) < 4294967296 := sumF_lt _ _ (by decide) fun x hx => by
    obtain ⟨y, hy, rfl⟩ := List.mem_map.1 hx
    have := hb y hy
    omega
  simp only [Option.bind_some, List.drop_zero]
  congr 1
  unfold SP.sumI crc
  rw [xor_top _ hlt]
  omega
theorem refsum_calls (A : Option Addr) (c : Nat) (l : List Int) (w : World) (hr : ReadsInt w .u8 A l.length l) (hc : l.length ≤ c) (hb : Bytes l) (hl : l.length ≤ 140737488355328) :
    Calls Tryd.prog 26 #[.slice A l.length c] w fun e w' => e = .returned (.int .u32 ((SP.sumI l : Nat) : Int)) ∧ Below w.heap.size w w' :=
  (PRegionSupers.bedrockref19_Sum.calls _ A c l _ w (Kd.C_of_reads (d := (0 : Int)) (h1 := fun _ => rfl) hr) hc (refsum_f l hb hl)).mono fun e w' h => ⟨h.1, h.2.below⟩
end Go.Proofs.YtijjecnmdhefbaaDoor.CK

namespace Go.Proofs.YtijjecnmdhefbaaDoor.SP
open Go.RowKit Go.Proofs.YtijjecnmdhefbaaDoorW.PrintWords Go.Proofs.YtijjecnmdhefbaaDoorW.PrintLast Go.Proofs.YtijjecnmdhefbaaDoorW.PrintMore Go.Proofs.YtijjecnmdhefbaaDoor.CD Go.Proofs.YtijjecnmdhefbaaDoor.BR Go.Proofs.YtijjecnmdhefbaaDoor.BP
set_option linter.unusedVariables false
set_option linter.unusedSimpArgs false
set_option maxRecDepth 100000
structure QS (w W : World) (s : Sup) (g : Nat) (L : List Int) (v : Value) : Prop where
  ob : OB W w.heap.size v L
  sup : SupAt W g s
  below : Below w.heap.size w W
theorem QS.under {w W W' : World} {s : Sup} {g : Nat} {L : List Int} {v : Value} (h : QS w W s g L v) (hb : Below W.heap.size W W') : QS w W' s g L v := ⟨h.ob.below hb, h.sup.below hb h.sup.lt, below_step h.below hb⟩
theorem QS.app {w W W' : World} {s : Sup} {g : Nat} {L L' : List Int} {v v' : Value} (h : QS w W s g L v) (ho : OB W' w.heap.size v' L') (hb : Below w.heap.size w W') (hg : W.grownBy W' v.ownBlock) : QS w W' s g L' v' :=
  ⟨ho, blk_grown h.sup hg (own_ne h.ob h.sup (by decide)), hb⟩
theorem QS.other {w W W' : World} {s : Sup} {g : Nat} {L : List Int} {v : Value} (h : QS w W s g L v) (hg : W.grownBy W' v.ownBlock) {b : Nat} {t : TypeId} {cs : Array Value} (hb : W.heap[b]? = some (.cells cs t (0, 0))) (ht : 5 ≠ t) : W'.heap[b]? = some (.cells cs t (0, 0)) :=
  blk_grown hb hg (own_ne h.ob hb ht)
def lenOf : Value → Nat
  | .slice _ n _ => n
  | _ => 0
theorem lit8 (W : World) (x : Int) : ReadsInt (W.alloc (.cells #[.int .u8 x] 5)) .u8 (some ⟨W.heap.size, 0, none⟩) 1 [x] := own_reads' (n := 1) (own_lit W W.heap.size 5 .u8 [x] (Nat.le_refl _) (by simp))
set_option maxHeartbeats 16000000 in
theorem rputSuper_calls (s : Sup) (w : World) (hs : s.seed < 18446744073709551616) :
    Calls Tryd.prog 7 #[.agg (supC s).toArray] w fun e w' => Puts s w e w' := by
  have HS := Lib.hid hs
  have HC := Lib.hid (fun W => rsuper_calls s W)
  clear hs
  go_enter Tryd.func7, Tryd.ntmps7
  have HA := Lib.hid (SupAt.new w s)
  have HBa := Lib.hid (below_alloc (Below.refl w.heap.size w) (.cells (supC s).toArray 33))
  go_wp2_with (refine wpList_load_mid rfl 33 (.tmp 1) rfl w.heap.size 0 rfl (supC s) _ (sup_range HA.out) Tryd.underlying33 rfl sup_info ?_)
  refine (HC.out _).mono ?_; rintro e w1 ⟨rfl, hb1⟩
  have HB1 := Lib.hid (below_step HBa.out hb1)
  have HA1 := Lib.hid (HA.out.below hb1 HA.out.lt)
  clear hb1
  cases hq : superB s with
  | false =>
    have HQ := Lib.hid hq
    go_wp2
    go_ret2
    exact ⟨by rw [HQ.out]; rfl, HB1.out⟩
  | true =>
    have HQ := Lib.hid hq
    have HK := Lib.hid ((superB_iff s HS.out).1 hq)
    clear hq
    go_upto_region 4 with fail
    have HQ0 : Hid (QS w (w1.alloc (.cells magicC 5)) s w.heap.size magic (.slice (some ⟨w1.heap.size, 0, none⟩) 8 8)) := Lib.hid ⟨own_lit w1 w.heap.size 5 .u8 magic HB1.out.size (by decide), HA1.out.below (below_alloc (Below.refl _ _) _) HA1.out.lt, below_step HB1.out (below_alloc (Below.refl _ _) _)⟩
    obtain ⟨W0, hW0⟩ : ∃ W, w1.alloc (.cells magicC 5) = W := ⟨_, rfl⟩
    obtain ⟨u0, hu0⟩ : ∃ u, Value.slice (some ⟨w1.heap.size, 0, none⟩) 8 8 = u := ⟨_, rfl⟩
    rw [hW0, hu0] at HQ0
    rw [hW0, hu0]
    have HL0 : Hid (magic.length ≤ 8) := Lib.hid (by decide)
    obtain ⟨L0, hL0⟩ : ∃ L, magic = L := ⟨_, rfl⟩
    rw [hL0] at HQ0 HL0
    have HE0 := Lib.hid hL0
    clear hW0 hu0 hL0 HA HA1 HBa HB1 HC
    have hb0 := HK.out.sectors
    have hb1 := HK.out.now
    simp only [lims] at hb0 hb1
    have x1 : IntKind.u64.wrap s.sectors = s.sectors := CF.wu64_id _ (by omega) (by omega)
    have x2 : IntKind.u64.wrap s.now = s.now := CF.wu64_id _ (by omega) (by omega)
    obtain ⟨k1, hk1⟩ : ∃ n : Nat, s.sectors = (n : Int) := ⟨s.sectors.toNat, by omega⟩
    obtain ⟨k3, hk3⟩ : ∃ n : Nat, s.now = (n : Int) := ⟨s.now.toNat, by omega⟩
    clear hb0 hb1
    obtain ⟨c0, c1, c2, c3, c4, c5, c6, c7, c8, c9, c10, c11, c12, c13, c14, c15, c16, c17⟩ := HQ0.out.sup.cells
    rw [hk1] at c0 x1
    rw [hk3] at c1 x2
    go_wp2_with fail
    refine (CR.refNum_calls k1 _ (by have := HK.out.sectors; simp only [lims] at this; omega)).mono ?_; rintro e wc1 ⟨vc1, rfl, ho1, hb1⟩
    obtain ⟨A1, d1, rfl, hd1, hr1⟩ := ho1.slice
    have HQc1 := Lib.hid (HQ0.out.under hb1)
    have HR1 := Lib.hid hr1
    clear ho1 hb1 hd1 hr1
    go_upto_region 5 with (at_builtin; refine print_append_row (w0 := w) w.heap.size rfl (.tmp 15) (.tmp 19) 41 5 .u8 1 rfl Tryd.underlying41 infoU8 (by decide) u0 L0 (num k1) A1 (num k1).length d1 rfl rfl HQc1.out.ob HR1.out HQc1.out.below HQc1.out.below.size (by have := HL0.out; have := num_le k1; omega) ?_; intro u1 W1 ho1 hb1 hg1 _; have HQ1 := Lib.hid (HQc1.out.app ho1 hb1 hg1); clear ho1 hb1 hg1)
    obtain ⟨L1, hL1⟩ : ∃ M, L0 ++ num k1 = M := ⟨_, rfl⟩
    have HL1 : Hid (L1.length ≤ 18) := Lib.hid (by have := HL0.out; have := num_le k1; rw [← hL1, List.length_append]; omega)
    rw [hL1] at HQ1
    have HE1 := Lib.hid hL1
    clear hL1
    clear c0 c1 c2 c3 c4 c5 c6 c7 c8 c9 c10 c11 c12 c13 c14 c15 c16 c17
    obtain ⟨c0, c1, c2, c3, c4, c5, c6, c7, c8, c9, c10, c11, c12, c13, c14, c15, c16, c17⟩ := HQ1.out.sup.cells
    go_wp2_with fail
    refine (CR.refNum_calls s.seed _ HS.out).mono ?_; rintro e wc2 ⟨vc2, rfl, ho2, hb2⟩
    obtain ⟨A2, d2, rfl, hd2, hr2⟩ := ho2.slice
    have HQc2 := Lib.hid (HQ1.out.under hb2)
    have HR2 := Lib.hid hr2
    clear ho2 hb2 hd2 hr2
    go_upto_region 6 with (at_builtin; refine print_append_row (w0 := w) w.heap.size rfl (.tmp 21) (.tmp 25) 41 5 .u8 1 rfl Tryd.underlying41 infoU8 (by decide) u1 L1 (num s.seed) A2 (num s.seed).length d2 rfl rfl HQc2.out.ob HR2.out HQc2.out.below HQc2.out.below.size (by have := HL1.out; have := num_le s.seed; omega) ?_; intro u2 W2 ho2 hb2 hg2 _; have HQ2 := Lib.hid (HQc2.out.app ho2 hb2 hg2); clear ho2 hb2 hg2)
    obtain ⟨L2, hL2⟩ : ∃ M, L1 ++ num s.seed = M := ⟨_, rfl⟩
    have HL2 : Hid (L2.length ≤ 28) := Lib.hid (by have := HL1.out; have := num_le s.seed; rw [← hL2, List.length_append]; omega)
    rw [hL2] at HQ2
    have HE2 := Lib.hid hL2
    clear hL2
    clear c0 c1 c2 c3 c4 c5 c6 c7 c8 c9 c10 c11 c12 c13 c14 c15 c16 c17
    obtain ⟨c0, c1, c2, c3, c4, c5, c6, c7, c8, c9, c10, c11, c12, c13, c14, c15, c16, c17⟩ := HQ2.out.sup.cells
    rw [hk3] at c1
    go_wp2_with fail
    refine (CR.refNum_calls k3 _ (by have := HK.out.now; simp only [lims] at this; omega)).mono ?_; rintro e wc3 ⟨vc3, rfl, ho3, hb3⟩
    obtain ⟨A3, d3, rfl, hd3, hr3⟩ := ho3.slice
    have HQc3 := Lib.hid (HQ2.out.under hb3)
    have HR3 := Lib.hid hr3
    clear ho3 hb3 hd3 hr3
    go_upto_region 7 with (at_builtin; refine print_append_row (w0 := w) w.heap.size rfl (.tmp 27) (.tmp 32) 41 5 .u8 1 rfl Tryd.underlying41 infoU8 (by decide) u2 L2 (num k3) A3 (num k3).length d3 rfl rfl HQc3.out.ob HR3.out HQc3.out.below HQc3.out.below.size (by have := HL2.out; have := num_le k3; omega) ?_; intro u3 W3 ho3 hb3 hg3 _; have HQ3 := Lib.hid (HQc3.out.app ho3 hb3 hg3); clear ho3 hb3 hg3)
    obtain ⟨L3, hL3⟩ : ∃ M, L2 ++ num k3 = M := ⟨_, rfl⟩
    have HL3 : Hid (L3.length ≤ 38) := Lib.hid (by have := HL2.out; have := num_le k3; rw [← hL3, List.length_append]; omega)
    rw [hL3] at HQ3
    have HE3 := Lib.hid hL3
    clear hL3
    clear c0 c1 c2 c3 c4 c5 c6 c7 c8 c9 c10 c11 c12 c13 c14 c15 c16 c17
    have HH : Hid (L3 = head3 s) := Lib.hid (by rw [← HE3.out, ← HE2.out, ← HE1.out, ← HE0.out]; unfold head3 nums; rw [hk1, hk3]; simp)
    have HK1 := Lib.hid hk1
    have HK3 := Lib.hid hk3
    clear x1 x2 hk1 hk3
    go_wp2_with fail
    go_loopw [4, 5] (fun bv iv W => ∃ i : Nat, i ≤ 2 ∧ iv = .int .i64 (i : Int) ∧ Aside0 (QS w W s w.heap.size (head3 s ++ ancs s i) bv)) (fun _ iv _ => 2 - (intOf iv).toNat)
    case atStart => exact ⟨0, by omega, rfl, ⟨by rw [show head3 s ++ ancs s 0 = head3 s from List.append_nil _, ← HH.out]; exact HQ3.out⟩⟩
    case round =>
      obtain ⟨i, hi, rfl, ⟨hp⟩⟩ := hrel
      have HQr := Lib.hid hp
      clear hp
      have hi3 : i = 0 ∨ i = 1 ∨ i = 2 := by omega
      rcases hi3 with rfl | rfl | rfl
      ·
        have HO : Hid (ancOk s.a = true) := Lib.hid HK.out.a
        have HN := Lib.hid (show head3 s ++ ancs s 1 = (head3 s ++ ancs s 0) ++ ancB s.a from by rw [List.append_assoc]; congr 1)
        obtain ⟨c0, c1, c2, c3, c4, c5, c6, c7, c8, c9, c10, c11, c12, c13, c14, c15, c16, c17⟩ := HQr.out.sup.cells
        obtain ⟨⟨on, x, y, z⟩, hq⟩ : ∃ q, s.a = q := ⟨_, rfl⟩
        rw [hq] at c3 c4 c5 c6 HO HN
        simp only at c3 c4 c5 c6
        clear hq
        obtain ⟨hxx, hyy, hzz⟩ := ancOk_range HO.out
        simp only at hxx hyy hzz
        have HXX := Lib.hid hxx
        have HYY := Lib.hid hyy
        have HZZ := Lib.hid hzz
        clear hxx hyy hzz
        have HLr : Hid ((head3 s ++ ancs s 0).length ≤ 118) := Lib.hid (by have := head3_le s; have := ancs_le s 0; rw [List.length_append]; omega)
        obtain ⟨Lr, hLr⟩ : ∃ L, head3 s ++ ancs s 0 = L := ⟨_, rfl⟩
        rw [hLr] at HQr HN HLr
        clear hLr
        obtain ⟨Ab, cb, hub, _, _⟩ := OB.slice HQr.out.ob
        subst hub
        go_upto_region 11 with fail
        have HQa := Lib.hid (HQr.out.under (below_alloc (Below.refl wr.heap.size wr) (.cells #[.int .i64 x, .int .i64 y, .int .i64 z, .bool on] 26)))
        have HAa := Lib.hid (blk_new wr (.cells #[.int .i64 x, .int .i64 y, .int .i64 z, .bool on] 26))
        obtain ⟨Wa, hWa⟩ : ∃ W, wr.alloc (.cells #[.int .i64 x, .int .i64 y, .int .i64 z, .bool on] 26) = W := ⟨_, rfl⟩
        obtain ⟨G, hG⟩ : ∃ G, wr.heap.size = G := ⟨_, rfl⟩
        rw [hWa] at HQa HAa
        rw [hG] at HAa
        rw [hWa, hG]
        clear hWa hG c0 c1 c2 c3 c4 c5 c6 c7 c8 c9 c10 c11 c12 c13 c14 c15 c16 c17
        have y3 := blk_cell HAa.out 3
        simp only [List.getElem?_toArray, List.getElem?_cons_succ, List.getElem?_cons_zero] at y3
        go_upto_if 44 with fail
        go_cut [4] (fun s4 wx => QS w wx s w.heap.size (Lr ++ num (if on = true then 1 else 0)) s4 ∧ wx.heap[G]? = some (.cells #[.int .i64 x, .int .i64 y, .int .i64 z, .bool on] 26 (0, 0)))
        case first =>
          cases on with
          | false =>
            have HQl := Lib.hid (HQa.out.under (below_alloc (Below.refl Wa.heap.size Wa) (.cells #[.int .u8 0] 5)))
            have HAl := Lib.hid (blk_below HAa.out (below_alloc (Below.refl Wa.heap.size Wa) (.cells #[.int .u8 0] 5)))
            go_wp2_with (at_builtin; refine print_append_row (w0 := w) w.heap.size rfl (.tmp 48) (.tmp 49) 41 5 .u8 1 rfl Tryd.underlying41 infoU8 (by decide) (.slice Ab Lr.length cb) Lr [0] (some ⟨Wa.heap.size, 0, none⟩) 1 1 rfl rfl HQl.out.ob (lit8 Wa 0) HQl.out.below HQl.out.below.size (by have := HLr.out; omega) ?_; intro uo Wo hoo hbo hgo _; have HQo := Lib.hid (HQl.out.app hoo hbo hgo); have HAo := Lib.hid (HQl.out.other hgo HAl.out (by decide)); clear hoo hbo hgo)
            go_meet
            exact ⟨by first | (rw [show num (if false = true then 1 else 0) = [0] from by decide]; exact HQo.out) | (rw [if_pos trivial, show num 1 = [1] from by decide]; exact HQo.out), HAo.out⟩
          | true =>
            have HQl := Lib.hid (HQa.out.under (below_alloc (Below.refl Wa.heap.size Wa) (.cells #[.int .u8 1] 5)))
            have HAl := Lib.hid (blk_below HAa.out (below_alloc (Below.refl Wa.heap.size Wa) (.cells #[.int .u8 1] 5)))
            go_wp2_with (at_builtin; refine print_append_row (w0 := w) w.heap.size rfl (.tmp 45) (.tmp 46) 41 5 .u8 1 rfl Tryd.underlying41 infoU8 (by decide) (.slice Ab Lr.length cb) Lr [1] (some ⟨Wa.heap.size, 0, none⟩) 1 1 rfl rfl HQl.out.ob (lit8 Wa 1) HQl.out.below HQl.out.below.size (by have := HLr.out; omega) ?_; intro uo Wo hoo hbo hgo _; have HQo := Lib.hid (HQl.out.app hoo hbo hgo); have HAo := Lib.hid (HQl.out.other hgo HAl.out (by decide)); clear hoo hbo hgo)
            go_meet
            exact ⟨by first | (rw [show num (if true = true then 1 else 0) = [1] from by decide]; exact HQo.out) | (rw [if_pos trivial, show num 1 = [1] from by decide]; exact HQo.out), HAo.out⟩
        case rest =>
          obtain ⟨hqc, hac⟩ := hcut
          have HQ4 := Lib.hid hqc
          have HA4 := Lib.hid hac
          clear hqc hac y3
          obtain ⟨L4, hL4⟩ : ∃ M, Lr ++ num (if on = true then 1 else 0) = M := ⟨_, rfl⟩
          have HL4 : Hid (L4.length ≤ 128) := Lib.hid (by have := HLr.out; have := num_le (if on = true then 1 else 0); rw [← hL4, List.length_append]; omega)
          rw [hL4] at HQ4
          have HE4 := Lib.hid hL4
          clear hL4
          obtain ⟨Ac, cc, huc, _, _⟩ := OB.slice HQ4.out.ob
          subst huc
          have q0 := blk_cell HA4.out 0
          have q1 := blk_cell HA4.out 1
          have q2 := blk_cell HA4.out 2
          simp only [List.getElem?_toArray, List.getElem?_cons_succ, List.getElem?_cons_zero] at q0 q1 q2
          go_wp2_with fail
          refine (CR.refInt_calls x _ HXX.out).mono ?_; rintro e wc5 ⟨vc5, rfl, ho5, hb5⟩
          obtain ⟨A5, d5, rfl, hd5, hr5⟩ := ho5.slice
          have HQc5 := Lib.hid (HQ4.out.under hb5)
          have HR5 := Lib.hid hr5
          have HAc5 := Lib.hid (blk_below HA4.out hb5)
          clear ho5 hb5 hd5 hr5
          go_upto_region 15 with (at_builtin; refine print_append_row (w0 := w) w.heap.size rfl (.tmp 51) (.tmp 55) 41 5 .u8 1 rfl Tryd.underlying41 infoU8 (by decide) (.slice Ac L4.length cc) L4 (num (zig x)) A5 (num (zig x)).length d5 rfl rfl HQc5.out.ob HR5.out HQc5.out.below HQc5.out.below.size (by have := HL4.out; have := num_le (zig x); omega) ?_; intro u5 W5 ho5 hb5 hg5 _; have HQ5 := Lib.hid (HQc5.out.app ho5 hb5 hg5); have HA5 := Lib.hid (HQc5.out.other hg5 HAc5.out (by decide)); clear ho5 hb5 hg5)
          obtain ⟨L5, hL5⟩ : ∃ M, L4 ++ num (zig x) = M := ⟨_, rfl⟩
          have HL5 : Hid (L5.length ≤ 138) := Lib.hid (by have := HL4.out; have := num_le (zig x); rw [← hL5, List.length_append]; omega)
          rw [hL5] at HQ5
          have HE5 := Lib.hid hL5
          clear hL5
          clear q0 q1 q2
          have q0 := blk_cell HA5.out 0
          have q1 := blk_cell HA5.out 1
          have q2 := blk_cell HA5.out 2
          simp only [List.getElem?_toArray, List.getElem?_cons_succ, List.getElem?_cons_zero] at q0 q1 q2
          go_wp2_with fail
          refine (CR.refInt_calls y _ HYY.out).mono ?_; rintro e wc6 ⟨vc6, rfl, ho6, hb6⟩
          obtain ⟨A6, d6, rfl, hd6, hr6⟩ := ho6.slice
          have HQc6 := Lib.hid (HQ5.out.under hb6)
          have HR6 := Lib.hid hr6
          have HAc6 := Lib.hid (blk_below HA5.out hb6)
          clear ho6 hb6 hd6 hr6
          go_upto_region 16 with (at_builtin; refine print_append_row (w0 := w) w.heap.size rfl (.tmp 57) (.tmp 61) 41 5 .u8 1 rfl Tryd.underlying41 infoU8 (by decide) u5 L5 (num (zig y)) A6 (num (zig y)).length d6 rfl rfl HQc6.out.ob HR6.out HQc6.out.below HQc6.out.below.size (by have := HL5.out; have := num_le (zig y); omega) ?_; intro u6 W6 ho6 hb6 hg6 _; have HQ6 := Lib.hid (HQc6.out.app ho6 hb6 hg6); have HA6 := Lib.hid (HQc6.out.other hg6 HAc6.out (by decide)); clear ho6 hb6 hg6)
          obtain ⟨L6, hL6⟩ : ∃ M, L5 ++ num (zig y) = M := ⟨_, rfl⟩
          have HL6 : Hid (L6.length ≤ 148) := Lib.hid (by have := HL5.out; have := num_le (zig y); rw [← hL6, List.length_append]; omega)
          rw [hL6] at HQ6
          have HE6 := Lib.hid hL6
          clear hL6
          clear q0 q1 q2
          have q0 := blk_cell HA6.out 0
          have q1 := blk_cell HA6.out 1
          have q2 := blk_cell HA6.out 2
          simp only [List.getElem?_toArray, List.getElem?_cons_succ, List.getElem?_cons_zero] at q0 q1 q2
          go_wp2_with fail
          refine (CR.refInt_calls z _ HZZ.out).mono ?_; rintro e wc7 ⟨vc7, rfl, ho7, hb7⟩
          obtain ⟨A7, d7, rfl, hd7, hr7⟩ := ho7.slice
          have HQc7 := Lib.hid (HQ6.out.under hb7)
          have HR7 := Lib.hid hr7
          clear ho7 hb7 hd7 hr7 q0 q1 q2
          go_wp2_with (at_builtin; refine print_append_row (w0 := w) w.heap.size rfl (.tmp 63) (.tmp 67) 41 5 .u8 1 rfl Tryd.underlying41 infoU8 (by decide) u6 L6 (num (zig z)) A7 (num (zig z)).length d7 rfl rfl HQc7.out.ob HR7.out HQc7.out.below HQc7.out.below.size (by have := HL6.out; have := num_le (zig z); omega) ?_; intro u7 W7 ho7 hb7 hg7 _; have HQ7 := Lib.hid (HQc7.out.app ho7 hb7 hg7); clear ho7 hb7 hg7)
          obtain ⟨L7, hL7⟩ : ∃ M, L6 ++ num (zig z) = M := ⟨_, rfl⟩
          have HL7 : Hid (L7.length ≤ 158) := Lib.hid (by have := HL6.out; have := num_le (zig z); rw [← hL7, List.length_append]; omega)
          rw [hL7] at HQ7
          have HE7 := Lib.hid hL7
          clear hL7
          go_roundw
          case rel => exact ⟨1, by omega, rfl, ⟨by rw [HN.out, show ancB ⟨on, x, y, z⟩ = num (if on = true then 1 else 0) ++ (num (zig x) ++ (num (zig y) ++ num (zig z))) from rfl, ← List.append_assoc, ← List.append_assoc, ← List.append_assoc, HE4.out, HE5.out, HE6.out, HE7.out]; exact HQ7.out⟩⟩
          case measure => simp [intOf]
      ·
        have HO : Hid (ancOk s.b = true) := Lib.hid HK.out.b
        have HN := Lib.hid (show head3 s ++ ancs s 2 = (head3 s ++ ancs s 1) ++ ancB s.b from by rw [List.append_assoc]; congr 1)
        obtain ⟨c0, c1, c2, c3, c4, c5, c6, c7, c8, c9, c10, c11, c12, c13, c14, c15, c16, c17⟩ := HQr.out.sup.cells
        obtain ⟨⟨on, x, y, z⟩, hq⟩ : ∃ q, s.b = q := ⟨_, rfl⟩
        rw [hq] at c7 c8 c9 c10 HO HN
        simp only at c7 c8 c9 c10
        clear hq
        obtain ⟨hxx, hyy, hzz⟩ := ancOk_range HO.out
        simp only at hxx hyy hzz
        have HXX := Lib.hid hxx
        have HYY := Lib.hid hyy
        have HZZ := Lib.hid hzz
        clear hxx hyy hzz
        have HLr : Hid ((head3 s ++ ancs s 1).length ≤ 118) := Lib.hid (by have := head3_le s; have := ancs_le s 1; rw [List.length_append]; omega)
        obtain ⟨Lr, hLr⟩ : ∃ L, head3 s ++ ancs s 1 = L := ⟨_, rfl⟩
        rw [hLr] at HQr HN HLr
        clear hLr
        obtain ⟨Ab, cb, hub, _, _⟩ := OB.slice HQr.out.ob
        subst hub
        go_upto_region 11 with fail
        have HQa := Lib.hid (HQr.out.under (below_alloc (Below.refl wr.heap.size wr) (.cells #[.int .i64 x, .int .i64 y, .int .i64 z, .bool on] 26)))
        have HAa := Lib.hid (blk_new wr (.cells #[.int .i64 x, .int .i64 y, .int .i64 z, .bool on] 26))
        obtain ⟨Wa, hWa⟩ : ∃ W, wr.alloc (.cells #[.int .i64 x, .int .i64 y, .int .i64 z, .bool on] 26) = W := ⟨_, rfl⟩
        obtain ⟨G, hG⟩ : ∃ G, wr.heap.size = G := ⟨_, rfl⟩
        rw [hWa] at HQa HAa
        rw [hG] at HAa
        rw [hWa, hG]
        clear hWa hG c0 c1 c2 c3 c4 c5 c6 c7 c8 c9 c10 c11 c12 c13 c14 c15 c16 c17
        have y3 := blk_cell HAa.out 3
        simp only [List.getElem?_toArray, List.getElem?_cons_succ, List.getElem?_cons_zero] at y3
        go_upto_if 44 with fail
        go_cut [4] (fun s4 wx => QS w wx s w.heap.size (Lr ++ num (if on = true then 1 else 0)) s4 ∧ wx.heap[G]? = some (.cells #[.int .i64 x, .int .i64 y, .int .i64 z, .bool on] 26 (0, 0)))
        case first =>
          cases on with
          | false =>
            have HQl := Lib.hid (HQa.out.under (below_alloc (Below.refl Wa.heap.size Wa) (.cells #[.int .u8 0] 5)))
            have HAl := Lib.hid (blk_below HAa.out (below_alloc (Below.refl Wa.heap.size Wa) (.cells #[.int .u8 0] 5)))
            go_wp2_with (at_builtin; refine print_append_row (w0 := w) w.heap.size rfl (.tmp 48) (.tmp 49) 41 5 .u8 1 rfl Tryd.underlying41 infoU8 (by decide) (.slice Ab Lr.length cb) Lr [0] (some ⟨Wa.heap.size, 0, none⟩) 1 1 rfl rfl HQl.out.ob (lit8 Wa 0) HQl.out.below HQl.out.below.size (by have := HLr.out; omega) ?_; intro uo Wo hoo hbo hgo _; have HQo := Lib.hid (HQl.out.app hoo hbo hgo); have HAo := Lib.hid (HQl.out.other hgo HAl.out (by decide)); clear hoo hbo hgo)
            go_meet
            exact ⟨by first | (rw [show num (if false = true then 1 else 0) = [0] from by decide]; exact HQo.out) | (rw [if_pos trivial, show num 1 = [1] from by decide]; exact HQo.out), HAo.out⟩
          | true =>
            have HQl := Lib.hid (HQa.out.under (below_alloc (Below.refl Wa.heap.size Wa) (.cells #[.int .u8 1] 5)))
            have HAl := Lib.hid (blk_below HAa.out (below_alloc (Below.refl Wa.heap.size Wa) (.cells #[.int .u8 1] 5)))
            go_wp2_with (at_builtin; refine print_append_row (w0 := w) w.heap.size rfl (.tmp 45) (.tmp 46) 41 5 .u8 1 rfl Tryd.underlying41 infoU8 (by decide) (.slice Ab Lr.length cb) Lr [1] (some ⟨Wa.heap.size, 0, none⟩) 1 1 rfl rfl HQl.out.ob (lit8 Wa 1) HQl.out.below HQl.out.below.size (by have := HLr.out; omega) ?_; intro uo Wo hoo hbo hgo _; have HQo := Lib.hid (HQl.out.app hoo hbo hgo); have HAo := Lib.hid (HQl.out.other hgo HAl.out (by decide)); clear hoo hbo hgo)
            go_meet
            exact ⟨by first | (rw [show num (if true = true then 1 else 0) = [1] from by decide]; exact HQo.out) | (rw [if_pos trivial, show num 1 = [1] from by decide]; exact HQo.out), HAo.out⟩
        case rest =>
          obtain ⟨hqc, hac⟩ := hcut
          have HQ4 := Lib.hid hqc
          have HA4 := Lib.hid hac
          clear hqc hac y3
          obtain ⟨L4, hL4⟩ : ∃ M, Lr ++ num (if on = true then 1 else 0) = M := ⟨_, rfl⟩
          have HL4 : Hid (L4.length ≤ 128) := Lib.hid (by have := HLr.out; have := num_le (if on = true then 1 else 0); rw [← hL4, List.length_append]; omega)
          rw [hL4] at HQ4
          have HE4 := Lib.hid hL4
          clear hL4
          obtain ⟨Ac, cc, huc, _, _⟩ := OB.slice HQ4.out.ob
          subst huc
          have q0 := blk_cell HA4.out 0
          have q1 := blk_cell HA4.out 1
          have q2 := blk_cell HA4.out 2
          simp only [List.getElem?_toArray, List.getElem?_cons_succ, List.getElem?_cons_zero] at q0 q1 q2
          go_wp2_with fail
          refine (CR.refInt_calls x _ HXX.out).mono ?_; rintro e wc5 ⟨vc5, rfl, ho5, hb5⟩
          obtain ⟨A5, d5, rfl, hd5, hr5⟩ := ho5.slice
          have HQc5 := Lib.hid (HQ4.out.under hb5)
          have HR5 := Lib.hid hr5
          have HAc5 := Lib.hid (blk_below HA4.out hb5)
          clear ho5 hb5 hd5 hr5
          go_upto_region 15 with (at_builtin; refine print_append_row (w0 := w) w.heap.size rfl (.tmp 51) (.tmp 55) 41 5 .u8 1 rfl Tryd.underlying41 infoU8 (by decide) (.slice Ac L4.length cc) L4 (num (zig x)) A5 (num (zig x)).length d5 rfl rfl HQc5.out.ob HR5.out HQc5.out.below HQc5.out.below.size (by have := HL4.out; have := num_le (zig x); omega) ?_; intro u5 W5 ho5 hb5 hg5 _; have HQ5 := Lib.hid (HQc5.out.app ho5 hb5 hg5); have HA5 := Lib.hid (HQc5.out.other hg5 HAc5.out (by decide)); clear ho5 hb5 hg5)
          obtain ⟨L5, hL5⟩ : ∃ M, L4 ++ num (zig x) = M := ⟨_, rfl⟩
          have HL5 : Hid (L5.length ≤ 138) := Lib.hid (by have := HL4.out; have := num_le (zig x); rw [← hL5, List.length_append]; omega)
          rw [hL5] at HQ5
          have HE5 := Lib.hid hL5
          clear hL5
          clear q0 q1 q2
          have q0 := blk_cell HA5.out 0
          have q1 := blk_cell HA5.out 1
          have q2 := blk_cell HA5.out 2
          simp only [List.getElem?_toArray, List.getElem?_cons_succ, List.getElem?_cons_zero] at q0 q1 q2
          go_wp2_with fail
          refine (CR.refInt_calls y _ HYY.out).mono ?_; rintro e wc6 ⟨vc6, rfl, ho6, hb6⟩
          obtain ⟨A6, d6, rfl, hd6, hr6⟩ := ho6.slice
          have HQc6 := Lib.hid (HQ5.out.under hb6)
          have HR6 := Lib.hid hr6
          have HAc6 := Lib.hid (blk_below HA5.out hb6)
          clear ho6 hb6 hd6 hr6
          go_upto_region 16 with (at_builtin; refine print_append_row (w0 := w) w.heap.size rfl (.tmp 57) (.tmp 61) 41 5 .u8 1 rfl Tryd.underlying41 infoU8 (by decide) u5 L5 (num (zig y)) A6 (num (zig y)).length d6 rfl rfl HQc6.out.ob HR6.out HQc6.out.below HQc6.out.below.size (by have := HL5.out; have := num_le (zig y); omega) ?_; intro u6 W6 ho6 hb6 hg6 _; have HQ6 := Lib.hid (HQc6.out.app ho6 hb6 hg6); have HA6 := Lib.hid (HQc6.out.other hg6 HAc6.out (by decide)); clear ho6 hb6 hg6)
          obtain ⟨L6, hL6⟩ : ∃ M, L5 ++ num (zig y) = M := ⟨_, rfl⟩
          have HL6 : Hid (L6.length ≤ 148) := Lib.hid (by have := HL5.out; have := num_le (zig y); rw [← hL6, List.length_append]; omega)
          rw [hL6] at HQ6
          have HE6 := Lib.hid hL6
          clear hL6
          clear q0 q1 q2
          have q0 := blk_cell HA6.out 0
          have q1 := blk_cell HA6.out 1
          have q2 := blk_cell HA6.out 2
          simp only [List.getElem?_toArray, List.getElem?_cons_succ, List.getElem?_cons_zero] at q0 q1 q2
          go_wp2_with fail
          refine (CR.refInt_calls z _ HZZ.out).mono ?_; rintro e wc7 ⟨vc7, rfl, ho7, hb7⟩
          obtain ⟨A7, d7, rfl, hd7, hr7⟩ := ho7.slice
          have HQc7 := Lib.hid (HQ6.out.under hb7)
          have HR7 := Lib.hid hr7
          clear ho7 hb7 hd7 hr7 q0 q1 q2
          go_wp2_with (at_builtin; refine print_append_row (w0 := w) w.heap.size rfl (.tmp 63) (.tmp 67) 41 5 .u8 1 rfl Tryd.underlying41 infoU8 (by decide) u6 L6 (num (zig z)) A7 (num (zig z)).length d7 rfl rfl HQc7.out.ob HR7.out HQc7.out.below HQc7.out.below.size (by have := HL6.out; have := num_le (zig z); omega) ?_; intro u7 W7 ho7 hb7 hg7 _; have HQ7 := Lib.hid (HQc7.out.app ho7 hb7 hg7); clear ho7 hb7 hg7)
          obtain ⟨L7, hL7⟩ : ∃ M, L6 ++ num (zig z) = M := ⟨_, rfl⟩
          have HL7 : Hid (L7.length ≤ 158) := Lib.hid (by have := HL6.out; have := num_le (zig z); rw [← hL7, List.length_append]; omega)
          rw [hL7] at HQ7
          have HE7 := Lib.hid hL7
          clear hL7
          go_roundw
          case rel => exact ⟨2, by omega, rfl, ⟨by rw [HN.out, show ancB ⟨on, x, y, z⟩ = num (if on = true then 1 else 0) ++ (num (zig x) ++ (num (zig y) ++ num (zig z))) from rfl, ← List.append_assoc, ← List.append_assoc, ← List.append_assoc, HE4.out, HE5.out, HE6.out, HE7.out]; exact HQ7.out⟩⟩
          case measure => simp [intOf]
      ·
        rw [show ((2 : Nat) : Int) = 2 from rfl]
        obtain ⟨c0, c1, c2, c3, c4, c5, c6, c7, c8, c9, c10, c11, c12, c13, c14, c15, c16, c17⟩ := HQr.out.sup.cells
        have HLr : Hid ((head3 s ++ ancs s 2).length ≤ 118) := Lib.hid (by have := head3_le s; have := ancs_le s 2; rw [List.length_append]; omega)
        have HBY := Lib.hid (body_parts s)
        obtain ⟨Lr, hLr⟩ : ∃ L, head3 s ++ ancs s 2 = L := ⟨_, rfl⟩
        rw [hLr] at HQr HLr HBY
        clear hLr
        obtain ⟨Ab, cb, hub, _, _⟩ := OB.slice HQr.out.ob
        subst hub
        obtain ⟨y1, y2, y3, y4, y5, y6, y7⟩ := wraps7 s HK.out
        go_upto_region 18 with fail
        have HQa := Lib.hid (HQr.out.under (below_alloc (Below.refl wr.heap.size wr) (.cells #[.int .i64 s.placed, .int .i64 s.broken, .int .i64 s.grown, .int .i64 s.burnt] 29)))
        have HAa := Lib.hid (blk_new wr (.cells #[.int .i64 s.placed, .int .i64 s.broken, .int .i64 s.grown, .int .i64 s.burnt] 29))
        obtain ⟨Wa, hWa⟩ : ∃ W, wr.alloc (.cells #[.int .i64 s.placed, .int .i64 s.broken, .int .i64 s.grown, .int .i64 s.burnt] 29) = W := ⟨_, rfl⟩
        obtain ⟨G, hG⟩ : ∃ G, wr.heap.size = G := ⟨_, rfl⟩
        rw [hWa] at HQa HAa
        rw [hG] at HAa
        rw [hWa, hG]
        clear hWa hG c0 c1 c2 c3 c4 c5 c6 c7 c8 c9 c10 c11 c12 c13 c14 c15 c16 c17
        obtain ⟨c0, c1, c2, c3, c4, c5, c6, c7, c8, c9, c10, c11, c12, c13, c14, c15, c16, c17⟩ := HQa.out.sup.cells
        have z0 := blk_cell HAa.out 0
        have z1 := blk_cell HAa.out 1
        have z2 := blk_cell HAa.out 2
        have z3 := blk_cell HAa.out 3
        simp only [List.getElem?_toArray, List.getElem?_cons_succ, List.getElem?_cons_zero] at z0 z1 z2 z3
        go_upto_region 19 with fail
        have HQ5 := Lib.hid (HQa.out.under (below_alloc (Below.refl Wa.heap.size Wa) (.cells #[.int .u64 s.placed, .int .u64 s.broken, .int .u64 s.grown, .int .u64 s.burnt, .int .u64 s.head, .int .u64 s.size, .int .u64 s.saves] 22)))
        have HB5 := Lib.hid (blk_new Wa (.cells #[.int .u64 s.placed, .int .u64 s.broken, .int .u64 s.grown, .int .u64 s.burnt, .int .u64 s.head, .int .u64 s.size, .int .u64 s.saves] 22))
        obtain ⟨W5, hW5⟩ : ∃ W, Wa.alloc (.cells #[.int .u64 s.placed, .int .u64 s.broken, .int .u64 s.grown, .int .u64 s.burnt, .int .u64 s.head, .int .u64 s.size, .int .u64 s.saves] 22) = W := ⟨_, rfl⟩
        obtain ⟨R7, hR7⟩ : ∃ R, Wa.heap.size = R := ⟨_, rfl⟩
        rw [hW5] at HQ5 HB5
        rw [hR7] at HB5
        rw [hW5, hR7]
        clear hW5 hR7 c0 c1 c2 c3 c4 c5 c6 c7 c8 c9 c10 c11 c12 c13 c14 c15 c16 c17 z0 z1 z2 z3 y1 y2 y3 y4 y5 y6 y7
        have HR7 := Lib.hid (ranges7 s HK.out)
        obtain ⟨xs, hxs⟩ : ∃ xs, [s.placed, s.broken, s.grown, s.burnt, s.head, s.size, s.saves] = xs := ⟨_, rfl⟩
        have HXL : Hid (xs.length = 7) := Lib.hid (by rw [← hxs]; rfl)
        have HXV : Hid ((#[.int .u64 s.placed, .int .u64 s.broken, .int .u64 s.grown, .int .u64 s.burnt, .int .u64 s.head, .int .u64 s.size, .int .u64 s.saves] : Array Value) = (xs.map fun n => Value.int .u64 n).toArray) := Lib.hid (by rw [← hxs]; rfl)
        rw [HXV.out] at HB5
        rw [hxs] at HR7 HBY
        clear hxs HXV
        go_wp2_with fail
        go_loopw [4, 9] (fun bv iv W => ∃ i : Nat, i ≤ 7 ∧ iv = .int .i64 (i : Int) ∧ Aside0 (QS w W s w.heap.size (Lr ++ nums (xs.take i)) bv ∧ W.heap[R7]? = some (.cells (xs.map fun n => Value.int .u64 n).toArray 22 (0, 0)))) (fun _ iv _ => 7 - (intOf iv).toNat)
        case atStart => exact ⟨0, by omega, rfl, ⟨by rw [List.take_zero]; unfold nums; simpa using HQ5.out, HB5.out⟩⟩
        case round =>
          obtain ⟨i, hi, rfl, ⟨hp, hb7⟩⟩ := hrel
          have HQi := Lib.hid hp
          have HBi := Lib.hid hb7
          clear hp hb7
          obtain ⟨Ai, ci, hui, _, _⟩ := OB.slice HQi.out.ob
          subst hui
          by_cases hlt : i < 7
          · have hd := decide_eq_true (show (i : Int) < 7 by omega)
            have q1 : (0 ≤ (i : Int)) = True := eq_true (by omega)
            have q2 : ((i : Int) < 7) = True := eq_true (by omega)
            have hil : i < xs.length := by have := HXL.out; omega
            have hxr := HR7.out xs[i] (List.getElem_mem hil)
            obtain ⟨n, hn⟩ : ∃ n : Nat, xs[i] = (n : Int) := ⟨xs[i].toNat, by omega⟩
            have cx := blk_cell HBi.out i
            rw [List.getElem?_toArray, List.getElem?_map, List.getElem?_eq_getElem hil] at cx
            have cx2 : wr.cell? ⟨R7, i, none⟩ = some (.int .u64 (n : Int)) := by rw [cx, ← hn]; rfl
            rw [hn] at hxr
            have HT := Lib.hid (show Lr ++ nums (xs.take (i + 1)) = (Lr ++ nums (xs.take i)) ++ num n by rw [nums_take xs i hil, hn, Int.toNat_natCast, List.append_assoc])
            have HLi : Hid ((Lr ++ nums (xs.take i)).length ≤ 188) := Lib.hid (by have k := nums_le' (xs.take i); have := HLr.out; rw [List.length_append]; rw [List.length_take] at k; omega)
            obtain ⟨M, hM⟩ : ∃ M, Lr ++ nums (xs.take i) = M := ⟨_, rfl⟩
            rw [hM] at HQi HT HLi
            have hMl : (Lr ++ nums (xs.take i)).length = M.length := by rw [hM]
            try rw [hMl]
            have HNum := Lib.hid (CR.refNum_calls n wr (by omega))
            clear hn cx hM hxr
            go_wp2_with fail
            refine HNum.out.mono ?_; rintro e wn ⟨vn, rfl, hon, hbn⟩
            obtain ⟨An, dn, rfl, hdn, hrn⟩ := hon.slice
            have HQn := Lib.hid (HQi.out.under hbn)
            have HBn := Lib.hid (blk_below HBi.out hbn)
            have HRn := Lib.hid hrn
            clear hon hbn hdn hrn cx2 HNum
            go_wp2_with (at_builtin; refine print_append_row (w0 := w) w.heap.size rfl (.tmp 100) (.tmp 105) 41 5 .u8 1 rfl Tryd.underlying41 infoU8 (by decide) _ M (num n) An (num n).length dn rfl rfl HQn.out.ob HRn.out HQn.out.below HQn.out.below.size (by have := HLi.out; have := num_le n; omega) ?_; intro uo Wo hoo hbo hgo _; have HQo := Lib.hid (HQn.out.app hoo hbo hgo); have HBo := Lib.hid (HQn.out.other hgo HBn.out (by decide)); clear hoo hbo hgo)
            go_roundw
            case rel => exact ⟨i + 1, by omega, rfl, ⟨by rw [HT.out]; exact HQo.out, HBo.out⟩⟩
            case measure => simp [intOf]; omega
          · have hd := decide_eq_false (show ¬ (i : Int) < 7 by omega)
            obtain rfl : i = 7 := by omega
            rw [show ((7 : Nat) : Int) = 7 from rfl]
            have HQ8 : Hid (QS w wr s w.heap.size (body s) (.slice Ai (Lr ++ nums (xs.take 7)).length ci)) := Lib.hid (by have e := HQi.out; rw [List.take_of_length_le (by have := HXL.out; omega)] at e ⊢; rw [HBY.out]; exact e)
            have hbl : (Lr ++ nums (xs.take 7)).length = (body s).length := by rw [List.take_of_length_le (by have := HXL.out; omega), HBY.out]
            rw [hbl] at HQ8
            rw [hbl]
            clear hbl HQi HBi
            have HLB := Lib.hid (body_le s)
            have HDAT : Hid (body s ++ List.replicate (508 - (body s).length) 0 = data s) := Lib.hid rfl
            have HDB := Lib.hid (data_bytes s HK.out)
            obtain ⟨B, hB⟩ : ∃ L, body s = L := ⟨_, rfl⟩
            rw [hB] at HQ8 HLB HDAT
            rw [hB]
            clear hB
            go_wp2_with fail
            go_loopw [4] (fun bv W => ∃ (m : Nat) (A : Option Addr) (c : Nat), B.length + m ≤ 508 ∧ bv = .slice A (B.length + m) c ∧ Aside0 (QS w W s w.heap.size (B ++ List.replicate m 0) bv)) (fun bv _ => 508 - lenOf bv)
            case atStart => exact ⟨0, Ai, ci, by have := HLB.out; omega, rfl, ⟨by simpa using HQ8.out⟩⟩
            case round =>
              obtain ⟨m, Am, cm, hm, rfl, ⟨hp⟩⟩ := hrel
              have HQm := Lib.hid hp
              clear hp
              by_cases hlt : B.length + m < 508
              · have hd := decide_eq_true (show ((B.length + m : Nat) : Int) < 508 by omega)
                have HQl := Lib.hid (HQm.out.under (below_alloc (Below.refl wr.heap.size wr) (.cells #[.int .u8 0] 5)))
                have HLm : Hid ((B ++ List.replicate m (0 : Int)).length = B.length + m) := Lib.hid (by simp)
                go_wp2_with (at_builtin; refine print_append_row (w0 := w) w.heap.size rfl (.tmp 110) (.tmp 111) 41 5 .u8 1 rfl Tryd.underlying41 infoU8 (by decide) _ (B ++ List.replicate m 0) [0] (some ⟨wr.heap.size, 0, none⟩) 1 1 rfl rfl HQl.out.ob (lit8 wr 0) HQl.out.below HQl.out.below.size (by rw [HLm.out]; omega) ?_; intro uo Wo hoo hbo hgo _; have HQo := Lib.hid (HQl.out.app hoo hbo hgo); clear hoo hbo hgo)
                obtain ⟨Ao, co, huo, _, _⟩ := OB.slice HQo.out.ob
                subst huo
                have hlo : (B ++ List.replicate m (0 : Int) ++ [0]).length = B.length + (m + 1) := by simp <;> omega
                have hro : B ++ List.replicate m (0 : Int) ++ [0] = B ++ List.replicate (m + 1) 0 := by rw [List.replicate_succ', List.append_assoc]
                rw [hlo] at HQo
                rw [hro] at HQo
                try rw [hlo]
                go_roundw
                case rel => exact ⟨m + 1, Ao, co, by omega, rfl, ⟨HQo.out⟩⟩
                case measure => simp only [lenOf]; omega
              · have hd := decide_eq_false (show ¬ ((B.length + m : Nat) : Int) < 508 by omega)
                obtain rfl : m = 508 - B.length := by omega
                have he : B.length + (508 - B.length) = 508 := by omega
                rw [HDAT.out, he] at HQm
                rw [he]
                clear he hd hlt
                have hob : OB wr w.heap.size (.slice Am (data s).length cm) (data s) := by rw [data_length]; exact HQm.out.ob
                obtain ⟨A', c', e', hle, _⟩ := OB.slice hob
                obtain ⟨rfl, rfl⟩ : Am = A' ∧ cm = c' := by injection e' with e1 e2 e3; exact ⟨e1, e3⟩
                have HSum := Lib.hid (CK.refsum_calls Am cm (data s) wr hob.reads hle HDB.out (by rw [data_length]; omega))
                rw [data_length] at HSum
                have hsl := sumI_lt (data s) HDB.out
                have HSL := Lib.hid hsl
                have hsum : IntKind.u64.wrap ((sumI (data s) : Nat) : Int) = ((sumI (data s) : Nat) : Int) := CF.wu64_id _ (by omega) (by omega)
                clear hob hle e' hsl
                have HPF := Lib.hid (put_fixed s)
                go_wp2_with fail
                refine HSum.out.mono ?_; rintro e ws ⟨rfl, hbs⟩
                have HQs := Lib.hid (HQm.out.under hbs)
                clear hbs HSum
                go_wp2_with fail
                refine (CR.refFixed_calls (sumI (data s)) 4 _ (by have := HSL.out; omega)).mono ?_; rintro e wf ⟨vf, rfl, hof, hbf⟩
                obtain ⟨Af, cf, rfl, hcf, hrf⟩ := hof.slice
                have HQf := Lib.hid (HQs.out.under hbf)
                have HRf := Lib.hid hrf
                have HFL := Lib.hid (CR.fixW_le (sumI (data s)) 4)
                clear hof hbf hcf hrf hsum
                go_upto_region 27 with (at_builtin; refine print_append_row (w0 := w) w.heap.size rfl (.tmp 115) (.tmp 118) 41 5 .u8 1 rfl Tryd.underlying41 infoU8 (by decide) _ (data s) (CR.fixW (sumI (data s)) 4) Af (CR.fixW (sumI (data s)) 4).length cf rfl rfl HQf.out.ob HRf.out HQf.out.below HQf.out.below.size (by have := HFL.out; rw [data_length]; omega) ?_; intro uo Wo hoo hbo hgo _; have HQo := Lib.hid (HQf.out.app hoo hbo hgo); clear hoo hbo hgo)
                rw [HPF.out] at HQo
                obtain ⟨Ao, co, huo, _, hro⟩ := OB.slice HQo.out.ob
                subst huo
                have hcs := conv_str (c := co) hro
                go_wp2
                go_ret2
                refine ⟨?_, HQo.out.below⟩
                rw [HQ.out]
                rfl
end Go.Proofs.YtijjecnmdhefbaaDoor.SP

namespace Go.Proofs.YtijjecnmdhefbaaDoor.CD
set_option linter.unusedVariables false
set_option linter.unusedSimpArgs false
def val7 : List Int → Nat
  | [] => 0
  | c :: l => (c % 128).toNat + 128 * val7 l
def Goes (l : List Int) (k : Nat) : Prop := 1 ≤ k ∧ k ≤ l.length ∧ (∀ j, j + 1 < k → 128 ≤ l.getD j 0) ∧ l.getD (k - 1) 0 < 128
theorem Goes.uniq {l : List Int} {a b : Nat} (h : Goes l a) (g : Goes l b) : a = b := by
  obtain ⟨h1, h2, h3, h4⟩ := h
  obtain ⟨g1, g2, g3, g4⟩ := g
  rcases Nat.lt_trichotomy a b with hlt | he | hgt
  · have := g3 (a - 1) (by omega); omega
  · exact he
  · have := h3 (b - 1) (by omega); omega
theorem numF_goes : ∀ (k n : Nat) (rest : List Int), n < 128 ^ (k + 1) → Goes (numF k n ++ rest) (numF k n).length
  | 0, n, rest, h => by
    have : n < 128 := by simpa using h
    refine ⟨by simp [numF], by simp [numF], fun j hj => by simp [numF] at hj, ?_⟩
    simp [numF]; omega
  | k + 1, n, rest, h => by
    by_cases hs : n < 128
    · rw [numF_small _ _ hs]
      refine ⟨by simp, by simp, fun j hj => by simp at hj, ?_⟩
      simp; omega
    · rw [numF_big k n (by omega)]
      obtain ⟨i1, i2, i3, i4⟩ := numF_goes k (n / 128) rest (by rw [Nat.pow_succ] at h; omega)
      refine ⟨by simp, by simp, fun j hj => ?_, ?_⟩
      · cases j with
        | zero => simp; omega
        | succ j => simp only [List.cons_append, List.getD_cons_succ]; exact i3 j (by simp at hj; omega)
      · simp only [List.length_cons, List.cons_append, Nat.add_sub_cancel]
        obtain ⟨q, hq⟩ : ∃ q, (numF k (n / 128)).length = q + 1 := ⟨(numF k (n / 128)).length - 1, by omega⟩
        rw [hq] at i4 ⊢
        simp only [List.getD_cons_succ]
        exact i4
theorem val7_numF : ∀ (k n : Nat), n < 128 ^ (k + 1) → val7 (numF k n) = n
  | 0, n, h => by
    have : n < 128 := by simpa using h
    simp [numF, val7]; omega
  | k + 1, n, h => by
    by_cases hs : n < 128
    · rw [numF_small _ _ hs]; simp [val7]; omega
    · rw [numF_big k n (by omega), val7, val7_numF k (n / 128) (by rw [Nat.pow_succ] at h; omega)]
      omega
theorem num_goes (n : Nat) (rest : List Int) (h : n < 18446744073709551616) : Goes (num n ++ rest) (num n).length := numF_goes 9 n rest (by omega)
theorem val7_num (n : Nat) (h : n < 18446744073709551616) : val7 (num n) = n := val7_numF 9 n (by omega)
theorem val7_take : ∀ (l : List Int) (i : Nat), i < l.length → val7 (l.take (i + 1)) = val7 (l.take i) + (l.getD i 0 % 128).toNat * 128 ^ i
  | c :: l, 0, _ => by simp [val7]
  | c :: l, i + 1, h => by
    simp only [List.take_succ_cons, val7, List.getD_cons_succ]
    rw [val7_take l i (by simpa using h), Nat.pow_succ]
    generalize (l.getD i 0 % 128).toNat = d
    generalize 128 ^ i = p
    have : d * (p * 128) = 128 * (d * p) := by rw [← Nat.mul_assoc, Nat.mul_comm]
    omega
theorem dec_goes_not (l : List Int) (hb : Bytes l) (h : ∀ k, k ≤ 10 → ¬ Goes l k) : dec l = (0, 0) := by
  cases hd : dec l with
  | mk m k =>
    by_cases hk : k = 0
    · subst hk; rw [dec_none l m hd]
    · obtain ⟨hm, hkl, hl, _, _, hk10⟩ := dec_back l hb m k hd hk
      have hg := num_goes m (l.drop k) hm
      rw [← hl, ← hkl] at hg
      exact absurd hg (h k hk10)
theorem dec_goes (l : List Int) (hb : Bytes l) (k : Nat) (hg : Goes l k) (n : Nat) (hn : n = val7 (l.take k) % 18446744073709551616) :
    dec l = if l.take (num n).length = num n then (n, k) else (0, 0) := by
  have hn64 : n < 18446744073709551616 := by rw [hn]; exact Nat.mod_lt _ (by decide)
  split
  · rename_i hp
    have hl : l = num n ++ l.drop (num n).length := by
      have := List.take_append_drop (num n).length l
      rw [hp] at this; exact this.symm
    have hg2 := num_goes n (l.drop (num n).length) hn64
    rw [← hl] at hg2
    rw [hg.uniq hg2]
    have hd := dec_num n (l.drop (num n).length) hn64
    rw [← hl] at hd
    exact hd
  · rename_i hp
    cases hd : dec l with
    | mk m k' =>
      by_cases hk : k' = 0
      · subst hk; rw [dec_none l m hd]
      · exfalso
        obtain ⟨hm, hkl, hl, _, _, _⟩ := dec_back l hb m k' hd hk
        have hg2 := num_goes m (l.drop k') hm
        rw [← hl] at hg2
        have e := hg.uniq hg2
        have ht : l.take k = num m := by rw [e, hl]; exact List.take_left
        apply hp
        have hnm : n = m := by rw [hn, ht, val7_num m hm]; exact Nat.mod_eq_of_lt hm
        rw [hnm, ← e]; exact ht
end Go.Proofs.YtijjecnmdhefbaaDoor.CD

namespace Go.Proofs.YtijjecnmdhefbaaDoor.CD
open Go.RowKit Go.Proofs.YtijjecnmdhefbaaDoorW.PrintWords Go.Proofs.YtijjecnmdhefbaaDoorW.PrintLast Go.Proofs.YtijjecnmdhefbaaDoorW.PrintMore
set_option linter.unusedVariables false
set_option linter.unusedSimpArgs false
theorem rdn (l : List Int) (i : Nat) : rd l (i : Int) = l.getD i 0 := by simp [rd]
theorem same_l0 (b w : List Int) (hl : w.length ≤ b.length) (hw : w.length ≤ 1000000) : ∀ (d f i : Nat), d = w.length - i → d < f → PRegionSupers.bedrockref04_same.l0 f b w (i : Int) = some (decide ((b.take w.length).drop i = w.drop i))
  | 0, f, i, hd, hf => by
    obtain ⟨f, rfl⟩ : ∃ g, f = g + 1 := ⟨f - 1, by omega⟩
    simp only [PRegionSupers.bedrockref04_same.l0]
    rw [if_neg (by omega), List.drop_of_length_le (by rw [List.length_take]; omega), List.drop_of_length_le (by omega)]
    simp
  | d + 1, f, i, hd, hf => by
    obtain ⟨f, rfl⟩ : ∃ g, f = g + 1 := ⟨f - 1, by omega⟩
    simp only [PRegionSupers.bedrockref04_same.l0]
    have hi : i < w.length := by omega
    rw [if_pos (by omega), if_pos (by omega), if_pos (by omega), rdn, rdn]
    have e1 : (b.take w.length).drop i = b.getD i 0 :: (b.take w.length).drop (i + 1) := by
      rw [List.drop_eq_getElem_cons (by rw [List.length_take]; omega), List.getElem_take, List.getD_eq_getElem?_getD, List.getElem?_eq_getElem (by omega)]; rfl
    have e2 : w.drop i = w.getD i 0 :: w.drop (i + 1) := by
      rw [List.drop_eq_getElem_cons hi, List.getD_eq_getElem?_getD, List.getElem?_eq_getElem hi]; rfl
    rw [e1, e2]
    have hw1 : wrap64 ((i : Int) + 1) = ((i + 1 : Nat) : Int) := by unfold wrap64; omega
    by_cases he : b.getD i 0 = w.getD i 0
    · rw [if_pos he, hw1, same_l0 b w hl hw d f (i + 1) (by omega) (by omega), he]
      simp
    · rw [if_neg he, decide_eq_false (fun e => he (by injection e))]
theorem same_f (b w : List Int) (hw : w.length ≤ 1000000) (f : Nat) (hf : w.length < f) : PRegionSupers.bedrockref04_same.f f b w = some (decide (b.take w.length = w)) := by
  unfold PRegionSupers.bedrockref04_same.f
  by_cases h : b.length < w.length
  · rw [if_pos (by omega)]
    have : ¬ (b.take w.length = w) := fun e => by have := congrArg List.length e; rw [List.length_take] at this; omega
    simp [this]
  · rw [if_neg (by omega)]
    have := same_l0 b w (by omega) hw w.length f 0 (by omega) hf
    simpa using this
theorem num_l0F : ∀ (k j n : Nat) (x : List Int), n < 128 ^ (k + 1) → n < 18446744073709551616 → x.length + k < 140737488355328 → k < j → PRegionSupers.bedrockref04_Num.l0 j (n : Int) x = some (x ++ numF k n)
  | 0, j, n, x, hn, h64, hx, hj => by
    obtain ⟨j, rfl⟩ : ∃ m, j = m + 1 := ⟨j - 1, by omega⟩
    simp only [PRegionSupers.bedrockref04_Num.l0, numF]
    rw [if_neg (by omega), if_pos (by omega), show ((n : Int) % 256) = (n : Int) by omega]
  | k + 1, j, n, x, hn, h64, hx, hj => by
    obtain ⟨j, rfl⟩ : ∃ m, j = m + 1 := ⟨j - 1, by omega⟩
    simp only [PRegionSupers.bedrockref04_Num.l0]
    by_cases h : n < 128
    · rw [numF_small _ _ h, if_neg (by omega), if_pos (by omega), show ((n : Int) % 256) = (n : Int) by omega]
    · have e1 : IntKind.u64.wrap (Int.tdiv (n : Int) 128) = ((n / 128 : Nat) : Int) := by
        rw [Int.tdiv_eq_ediv_of_nonneg (by omega), CF.wu64]; omega
      have e2 : (IntKind.u64.wrap ((Int.tmod (n : Int) 128) + 128)) % 256 = ((n % 128 + 128 : Nat) : Int) := by
        rw [Int.tmod_eq_emod_of_nonneg (by omega), CF.wu64]; omega
      rw [numF_big k n (by omega), if_pos (by omega), if_pos (by omega), e1, e2]
      clear e1 e2
      rw [num_l0F k j (n / 128) _ (by rw [Nat.pow_succ] at hn; omega) (by omega) (by simp; omega) (by omega)]
      simp
theorem num_fF (n f : Nat) (hn : n < 18446744073709551616) (hf : 12 ≤ f) : PRegionSupers.bedrockref04_Num.f f (n : Int) = some (num n) := by
  have h := num_l0F 9 f n [] (by omega) hn (by simp) (by omega)
  unfold PRegionSupers.bedrockref04_Num.f
  exact h
def told (l : List Int) (k n : Nat) : Int × Int := if l.take (num n).length = num n then ((n : Int), (k : Int)) else (0, 0)
theorem first_l1 (l : List Int) (hb : Bytes l) (k F : Nat) (hF : 20 ≤ F) : ∀ (i x : Nat), i ≤ l.length → i ≤ 1000000 → x < 18446744073709551616 →
    PRegionSupers.bedrockref04_First.l1 (i + 1 + F) l (k : Int) (x : Int) ((i : Int) - 1) = some (told l k ((x * 128 ^ i + val7 (l.take i)) % 18446744073709551616))
  | 0, x, hi, h6, hx => by
    rw [show 0 + 1 + F = F + 1 by omega]
    simp only [PRegionSupers.bedrockref04_First.l1]
    rw [if_neg (by omega), num_fF x F hx (by omega)]
    simp only [Option.bind_some]
    rw [same_f l (num x) (by have := num_le x; omega) F (by have := num_le x; omega)]
    simp only [Option.bind_some, decide_eq_true_eq, List.take_zero, val7, Nat.pow_zero, Nat.mul_one, Nat.add_zero]
    rw [Nat.mod_eq_of_lt hx]
    unfold told
    split <;> rfl
  | i + 1, x, hi, h6, hx => by
    rw [show i + 1 + 1 + F = (i + 1 + F) + 1 by omega]
    simp only [PRegionSupers.bedrockref04_First.l1]
    have e1 : (((i + 1 : Nat) : Int) - 1) = (i : Int) := by omega
    rw [e1, if_pos (by omega), if_pos (by omega), if_pos (by omega), rdn]
    have hc : 0 ≤ l.getD i 0 ∧ l.getD i 0 < 256 := by
      rw [List.getD_eq_getElem?_getD, List.getElem?_eq_getElem (by omega)]
      exact hb _ (List.getElem_mem (by omega))
    have hv := val7_take l i (by omega)
    obtain ⟨c, hce⟩ : ∃ c : Nat, l.getD i 0 = (c : Int) := ⟨(l.getD i 0).toNat, by omega⟩
    rw [hce] at hc hv ⊢
    have e2 : IntKind.u64.wrap (IntKind.u64.wrap (128 * (x : Int)) + IntKind.u64.wrap (Int.tmod (c : Int) 128)) = (((128 * x + c % 128) % 18446744073709551616 : Nat) : Int) := by
      rw [Int.tmod_eq_emod_of_nonneg (by omega), CF.wu64, CF.wu64, CF.wu64]; omega
    have e3 : wrap64 ((i : Int) - 1) = (i : Int) - 1 := by unfold wrap64; omega
    rw [e2, e3, first_l1 l hb k F hF i _ (by omega) (by omega) (Nat.mod_lt _ (by decide))]
    congr 2
    rw [hv]
    have e4 : (((c : Int) % 128).toNat) = c % 128 := by omega
    rw [e4, Nat.pow_succ]
    generalize val7 (l.take i) = v
    generalize 128 ^ i = p
    rw [Nat.add_mod, Nat.mod_mul_mod, ← Nat.add_mod]
    congr 1
    rw [Nat.add_mul, Nat.mul_comm 128 x, Nat.mul_assoc, Nat.mul_comm 128 p]
    omega
theorem first_l0 (l : List Int) (hb : Bytes l) (hl : l.length ≤ 140737488355328) : ∀ (d k : Nat), k + d = 11 → 1 ≤ k → (∀ j, j + 1 < k → 128 ≤ l.getD j 0) →
    PRegionSupers.bedrockref04_First.l0 (2 * d + 50) l (k : Int) = some (((dec l).1 : Int), ((dec l).2 : Int))
  | d, k, hd, hk, hall => by
    have hfall : ∀ (hk' : ¬ (k ≤ 10 ∧ k ≤ l.length)), dec l = (0, 0) := fun hk' => dec_goes_not l hb fun q hq hg => by
      obtain ⟨g1, g2, g3, g4⟩ := hg
      have := hall (q - 1) (by omega)
      omega
    rw [show 2 * d + 50 = (2 * d + 48 + 1) + 1 by omega]
    simp only [PRegionSupers.bedrockref04_First.l0]
    by_cases h10 : k ≤ 10
    · rw [if_pos (by omega)]
      by_cases hlen : k ≤ l.length
      · rw [decide_eq_true (by omega)]
        simp only [PRegionSupers.bedrockref04_First.j1, if_true]
        have e1 : wrap64 ((k : Int) - 1) = ((k - 1 : Nat) : Int) := by unfold wrap64; omega
        have e2 : wrap64 ((k : Int) + 1) = ((k + 1 : Nat) : Int) := by unfold wrap64; omega
        rw [e1, e2, if_pos (by omega), if_pos (by omega), rdn]
        by_cases hc : 128 ≤ l.getD (k - 1) 0
        · rw [if_pos (by omega)]
          obtain ⟨d, rfl⟩ : ∃ q, d = q + 1 := ⟨d - 1, by omega⟩
          rw [show 2 * (d + 1) + 48 = 2 * d + 50 by omega]
          refine first_l0 l hb hl d (k + 1) (by omega) (by omega) fun j hj => ?_
          rcases Nat.lt_or_ge (j + 1) k with h | h
          · exact hall j h
          · obtain rfl : j = k - 1 := by omega
            exact hc
        · rw [if_neg (by omega)]
          have hg : Goes l k := ⟨hk, hlen, hall, by omega⟩
          have h1 := first_l1 l hb k (2 * d + 48 - k - 1) (by omega) k 0 hlen (by omega) (by decide)
          rw [show k + 1 + (2 * d + 48 - k - 1) = 2 * d + 48 by omega] at h1
          have e3 : ((k - 1 : Nat) : Int) = (k : Int) - 1 := by omega
          rw [e3]
          have h1' : PRegionSupers.bedrockref04_First.l1 (2 * d + 48) l (k : Int) 0 ((k : Int) - 1) = _ := h1
          rw [h1', Nat.zero_mul, Nat.zero_add, dec_goes l hb k hg _ rfl]
          unfold told
          split <;> rfl
      · rw [decide_eq_false (by omega)]
        simp only [PRegionSupers.bedrockref04_First.j1, Bool.false_eq_true, if_false]
        rw [hfall (by omega)]; rfl
    · rw [if_neg (by omega)]
      simp only [PRegionSupers.bedrockref04_First.j1, Bool.false_eq_true, if_false]
      rw [hfall (by omega)]; rfl
  termination_by d => d
theorem first_f (l : List Int) (hb : Bytes l) (hl : l.length ≤ 140737488355328) : PRegionSupers.bedrockref04_First.f 70 l = some (((dec l).1 : Int), ((dec l).2 : Int)) :=
  first_l0 l hb hl 10 1 (by omega) (by omega) fun j hj => by omega
end Go.Proofs.YtijjecnmdhefbaaDoor.CD

namespace Go.Proofs.YtijjecnmdhefbaaDoor.BR
open Go.RowKit Go.Proofs.YtijjecnmdhefbaaDoorW.PrintWords Go.Proofs.YtijjecnmdhefbaaDoorW.PrintLast Go.Proofs.YtijjecnmdhefbaaDoorW.PrintMore Go.Proofs.YtijjecnmdhefbaaDoor.CD
set_option linter.unusedVariables false
set_option linter.unusedSimpArgs false
structure RRd (w : World) (g : Nat) (xs : List Int) (br : Bool) : Prop where
  cell : ∃ (A : Option Addr) (c : Nat), w.heap[g]? = some (.cells #[.slice A xs.length c, .bool br] 80 (0, 0)) ∧ xs.length ≤ c ∧ ReadsInt w .u8 A xs.length xs ∧ (∀ ad, A = some ad → 0 < xs.length → ad.block ≠ g)
  small : xs.length ≤ 140737488355328
  bytes : Bytes xs
theorem RRd.lt {w : World} {g : Nat} {xs : List Int} {br : Bool} (h : RRd w g xs br) : g < w.heap.size := by
  obtain ⟨A, c, hb, _⟩ := h.cell
  exact blk_lt hb
theorem RRd.kept {w w' : World} {g : Nat} {xs : List Int} {br : Bool} (h : RRd w g xs br) {row : Option Nat} (hg : w.grownBy w' row) (hne : some g ≠ row) (hdata : ∀ ad : Addr, some ad.block = row → ∀ A c, w.heap[g]? = some (.cells #[.slice A xs.length c, .bool br] 80 (0, 0)) → 0 < xs.length → A ≠ some ad) : RRd w' g xs br := by
  obtain ⟨A, c, hb, hc, hr, hn⟩ := h.cell
  refine ⟨⟨A, c, (hg.block g (blk_lt hb) hne).trans hb, hc, reads_kept hr fun ad e h0 hl => hg.block _ hl (fun e2 => hdata ad e2 A c hb h0 e), hn⟩, h.small, h.bytes⟩
theorem RRd.below {w w' : World} {g : Nat} {xs : List Int} {br : Bool} (h : RRd w g xs br) (hb : Below w.heap.size w w') : RRd w' g xs br :=
  h.kept (gofBelow (row := none) hb) (by simp) (fun ad e => by cases e)
theorem RRd.drewN {w : World} {g : Nat} {xs : List Int} {br : Bool} (h : RRd w g xs br) (n : Nat) : RRd (w.drewN n) g xs br := h.below (pw_below_drewN (Below.refl _ _) n)
theorem RRd.breaks {w : World} {g : Nat} {xs : List Int} {br : Bool} (h : RRd w g xs br) : RRd (w.setCell ⟨g, 1, none⟩ (.bool true)) g xs true := by
  obtain ⟨A, c, hb, hc, hr, hn⟩ := h.cell
  refine ⟨⟨A, c, by rw [blk_set hb]; rfl, hc, reads_kept hr fun ad e h0 hl => Below.heap_setCell w _ _ _ (hn ad e h0), hn⟩, h.small, h.bytes⟩
theorem RRd.moves {w : World} {g : Nat} {xs : List Int} {br : Bool} (h : RRd w g xs br) {A : Option Addr} {c : Nat} (hb : w.heap[g]? = some (.cells #[.slice A xs.length c, .bool br] 80 (0, 0))) {m : Nat} (hm : m ≤ xs.length) {A' : Option Addr}
    (hr : ∀ w, ReadsInt w .u8 A xs.length xs → ReadsInt w .u8 A' (xs.drop m).length (xs.drop m)) (ha : ∀ ad', A' = some ad' → ∃ ad, A = some ad ∧ ad.block = ad'.block) :
    RRd (w.setCell ⟨g, 0, none⟩ (.slice A' (xs.length - m) (c - m))) g (xs.drop m) br := by
  obtain ⟨A2, c2, hb2, hc, hrd, hn⟩ := h.cell
  rw [hb2] at hb
  simp only [Option.some.injEq, Obj.cells.injEq, Array.mk.injEq, List.cons.injEq, Value.slice.injEq, and_true, true_and] at hb
  obtain ⟨rfl, rfl⟩ := hb
  have hl : (xs.drop m).length = xs.length - m := List.length_drop
  have hne : ∀ ad', A' = some ad' → 0 < (xs.drop m).length → ad'.block ≠ g := fun ad' e h0 => by
    obtain ⟨ad, e1, e2⟩ := ha ad' e
    rw [← e2]
    exact hn ad e1 (by omega)
  refine ⟨⟨A', c2 - m, by rw [blk_set hb2, hl]; rfl, by omega, reads_kept (hr w hrd) fun ad e h0 hlt => Below.heap_setCell w _ _ _ (hne ad e h0), hne⟩, by have := h.small; omega, h.bytes.drop m⟩
set_option maxRecDepth 100000 in
theorem step_no (g : Nat) (xs : List Int) (br : Bool) (n : Int) (w : World) (h : RRd w g xs br) (hn : n < 0 ∨ n > (xs.length : Int)) :
    Calls Tryd.prog 59 #[.pointer (some ⟨g, 0, none⟩), .int .i64 n] w fun e w' => ∃ v, e = .returned v ∧ OB w' w.heap.size v [] ∧ RRd w' g xs true ∧ w.grownBy w' (some g) := by
  have H := Lib.hid h
  obtain ⟨A, c, hb, hc, hr, hne⟩ := h.cell
  have h0 := blk_cell hb 0
  have h2 := blk_cell hb 1
  have f2 := blk_frozen hb 1
  simp only [List.getElem?_toArray, List.getElem?_cons_succ, List.getElem?_cons_zero] at h0 h2
  clear hb hc hr hne h
  by_cases h1 : n < 0
  · have hd : decide (n < 0) = true := decide_eq_true h1
    clear hn
    go_enter Tryd.func59, Tryd.ntmps59
    go_wp2_with fail
    go_ret
    exact ⟨_, rfl, own_nil _ _ _ _, H.out.breaks, gset (World.grownBy.refl _ _) _ _⟩
  · have hd : decide (n < 0) = false := decide_eq_false h1
    have hd2 : decide ((xs.length : Int) < n) = true := decide_eq_true (by omega)
    clear hn
    go_enter Tryd.func59, Tryd.ntmps59
    go_wp2_with fail
    go_ret
    exact ⟨_, rfl, own_nil _ _ _ _, H.out.breaks, gset (World.grownBy.refl _ _) _ _⟩
-- FI
theorem step_ok (g : Nat) (xs : List Int) (br : Bool) (n : Int) (w : World) (h : RRd w g xs br) (hn0 : 0 ≤ n) (hn1 : n ≤ (xs.length : Int)) :
    Calls Tryd.prog 59 #[.pointer (some ⟨g, 0, none⟩), .int .i64 n] w fun e w' => ∃ v, e = .returned v ∧ OB w' w.heap.size v (xs.take n.toNat) ∧ RRd w' g (xs.drop n.toNat) br ∧ w.grownBy w' (some g) := by
  have H := Lib.hid h
  obtain ⟨k, rfl⟩ := Int.eq_ofNat_of_zero_le hn0
  rw [Int.toNat_natCast]
  have hkl : k ≤ xs.length := by omega
  obtain ⟨A, c, hb, hc, hr, hne⟩ := h.cell
  have hg := blk_lt hb
  have h0 := blk_cell hb 0
  have f0 := blk_frozen hb 0
  simp only [List.getElem?_toArray, List.getElem?_cons_succ, List.getElem?_cons_zero] at h0
  obtain ⟨A', hcut, hrd, hA'⟩ := cutFrom A xs c k hkl hc
  have hto := cut_to (P := Tryd.prog) 41 5 .i64 Tryd.underlying41 (info_parts infoU8).choose_spec.1 A xs.length c (k : Int) (by omega) (by omega) hc
  simp only [Int.toNat_natCast] at hto
  have hrt := hr.take_ k hkl
  obtain ⟨ys, hys⟩ : ∃ ys, ys = xs.take k := ⟨_, rfl⟩
  rw [← hys] at hrt ⊢
  have hyl : ys.length ≤ 140737488355328 := by rw [hys, List.length_take]; have := h.small; omega
  have hyk : k ≤ 140737488355328 := by have := h.small; omega
  have Hb := Lib.hid hb
  have HM := Lib.hid hrd
  have HA := Lib.hid hA'
  have Hr := Lib.hid hrt
  have Hkl := Lib.hid hkl
  have h0a : ∀ (n : Nat) (o : Obj), ((w.drewN n).alloc o).cell? ⟨g, 0, none⟩ = some (.slice A xs.length c) := fun n o => pw_cell_below (below_alloc (pw_below_drewN (Below.refl _ _) _) _) h0
  have hd : decide ((k : Int) < 0) = false := decide_eq_false (by omega)
  have hd2 : decide (xs.length < k) = false := decide_eq_false (by omega)
  clear hb hc hr hne h hrd hA' hkl hn0 hn1 hrt hys
  go_enter Tryd.func59, Tryd.ntmps59
  go_wp2_with (at_builtin; refine print_append_row (w0 := w) w.heap.size rfl (.tmp 20) (.tmp 26) 41 5 .u8 1 rfl Tryd.underlying41 infoU8 (by decide) (.slice none 0 0) [] ys A k c rfl rfl ?own ?reads ?below ?size ?len ?_; (case own => exact own_nil _ _ _ _); (case reads => exact Hr.out); (case below => exact Below.refl _ _); (case size => simp); (case len => simp; omega); intro v1 w1 hown hb1 hg1 hat; rw [List.nil_append] at hown; obtain ⟨A1, c1, rfl, hc1, hr1⟩ := OB.slice hown; have HO := Lib.hid hown; have HB := Lib.hid hb1; have h0' := (hb1.cell (p := ⟨g, 0, none⟩) hg).trans h0; have f0' := (hb1.frozen (p := ⟨g, 0, none⟩) hg).trans f0; have Hb' := Lib.hid ((hb1.block g hg).trans Hb.out); clear hown hb1 hr1 hg1 hat)
  go_ret
  exact ⟨_, rfl, OB.set HO.out hg _ _, (H.out.below HB.out).moves Hb'.out Hkl.out HM.out HA.out, gset (gofBelow HB.out) _ _⟩
end Go.Proofs.YtijjecnmdhefbaaDoor.BR

namespace Go.Proofs.YtijjecnmdhefbaaDoor.BR
open Go.RowKit Go.Proofs.YtijjecnmdhefbaaDoorW.PrintWords Go.Proofs.YtijjecnmdhefbaaDoorW.PrintLast Go.Proofs.YtijjecnmdhefbaaDoorW.PrintMore Go.Proofs.YtijjecnmdhefbaaDoor.CD
set_option linter.unusedVariables false
set_option linter.unusedSimpArgs false
theorem first_calls (A : Option Addr) (c : Nat) (xs : List Int) (w : World) (hr : ReadsInt w .u8 A xs.length xs) (hc : xs.length ≤ c) (hb : Bytes xs) (hs : xs.length ≤ 140737488355328) :
    Calls Tryd.prog 58 #[.slice A xs.length c] w fun e w' => e = .returned (.tuple #[.int .u64 ((dec xs).1 : Int), .int .i64 ((dec xs).2 : Int)]) ∧ Below w.heap.size w w' :=
  PRegionSupers.bedrockref04_First.calls 70 A c xs _ _ w (Kd.C_of_reads (d := (0 : Int)) (h1 := fun _ => rfl) hr) hc (first_f xs hb hs)
set_option maxHeartbeats 400000 in
set_option maxRecDepth 100000 in
theorem refnum_calls (g : Nat) (xs : List Int) (br : Bool) (w : World) (h : RRd w g xs br) :
    Calls Tryd.prog 35 #[.pointer (some ⟨g, 0, none⟩)] w fun e w' => e = .returned (.int .u64 ((rNum (xs, br)).1 : Int)) ∧ RRd w' g (rNum (xs, br)).2.1 (rNum (xs, br)).2.2 ∧ w.grownBy w' (some g) := by
  have H := Lib.hid h
  obtain ⟨A, c, hb, hc, hr, hne⟩ := h.cell
  have h0 := blk_cell hb 0
  have h1 := blk_cell hb 1
  simp only [List.getElem?_toArray, List.getElem?_cons_succ, List.getElem?_cons_zero] at h0 h1
  have HF := Lib.hid (first_calls A c xs w hr hc h.bytes h.small)
  clear hb hc hr hne h
  cases br with
  | true =>
    go_enter Tryd.func35, Tryd.ntmps35
    go_wp2
    go_ret
    exact ⟨rfl, H.out, World.grownBy.refl _ _⟩
  | false =>
    obtain ⟨⟨m, k⟩, hd⟩ : ∃ q, dec xs = q := ⟨_, rfl⟩
    have e : rNum (xs, false) = if k = 0 then (0, (xs, true)) else (m, (xs.drop k, false)) := by unfold rNum; simp only [Bool.false_eq_true, if_false]; rw [hd]
    rw [hd] at HF
    by_cases hk : k = 0
    · subst hk
      have hm := dec_none xs m hd
      subst hm
      rw [e, if_pos rfl]
      clear e hd
      go_enter Tryd.func35, Tryd.ntmps35
      go_wp2_with fail
      refine HF.out.mono ?_; rintro e w1 ⟨rfl, hb1⟩; have HB1 := Lib.hid hb1; clear hb1
      go_wp2_with fail
      refine (step_no g xs false (-1) _ (H.out.below HB1.out) (by omega)).mono ?_; rintro e w2 ⟨v2, rfl, ho2, hr2, hg2⟩; have HR2 := Lib.hid hr2; have HG2 := Lib.hid (gtrans (gofBelow HB1.out) hg2); clear ho2 hr2 hg2
      go_wp2
      go_ret
      exact ⟨rfl, HR2.out, HG2.out⟩
    · have hkl := (dec_back xs H.out.bytes m k hd hk).2.2.2.1
      have hk10 := (dec_back xs H.out.bytes m k hd hk).2.2.2.2.2
      rw [e, if_neg hk]
      have hkz : decide (k = 0) = false := decide_eq_false hk
      clear e hd
      go_enter Tryd.func35, Tryd.ntmps35
      go_wp2_with fail
      refine HF.out.mono ?_; rintro e w1 ⟨rfl, hb1⟩; have HB1 := Lib.hid hb1; clear hb1
      have kz : ((k : Int) == 0) = false := beq_eq_false_iff_ne.mpr (by omega)
      go_wp2_with fail
      refine (step_ok g xs false (k : Int) _ (H.out.below HB1.out) (by omega) (by omega)).mono ?_; rintro e w2 ⟨v2, rfl, ho2, hr2, hg2⟩; have HR2 := Lib.hid hr2; have HG2 := Lib.hid (gtrans (gofBelow HB1.out) hg2); clear ho2 hr2 hg2
      go_wp2
      go_ret
      exact ⟨rfl, HR2.out, HG2.out⟩
end Go.Proofs.YtijjecnmdhefbaaDoor.BR

namespace Go.Proofs.YtijjecnmdhefbaaDoor.BQ
open Go.RowKit Go.Proofs.YtijjecnmdhefbaaDoorW.PrintWords Go.Proofs.YtijjecnmdhefbaaDoorW.PrintLast Go.Proofs.YtijjecnmdhefbaaDoorW.PrintMore Go.Proofs.YtijjecnmdhefbaaDoor.CD Go.Proofs.YtijjecnmdhefbaaDoor.BR
set_option linter.unusedVariables false
set_option linter.unusedSimpArgs false
variable {p : Nat → Prop}
structure RRd (p : Nat → Prop) (w : World) (g : Nat) (xs : List Int) (br : Bool) : Prop where
  cell : ∃ (A : Option Addr) (c : Nat), w.heap[g]? = some (.cells #[.slice A xs.length c, .bool br] 80 (0, 0)) ∧ xs.length ≤ c ∧ ReadsInt w .u8 A xs.length xs ∧ (∀ ad, A = some ad → 0 < xs.length → ad.block ≠ g)
  small : xs.length ≤ 140737488355328
  bytes : Bytes xs
  dat : ∀ (A : Option Addr) (c : Nat), w.heap[g]? = some (.cells #[.slice A xs.length c, .bool br] 80 (0, 0)) → ∀ ad, A = some ad → 0 < xs.length → p ad.block
theorem RRd.lt {w : World} {g : Nat} {xs : List Int} {br : Bool} (h : RRd p w g xs br) : g < w.heap.size := by
  obtain ⟨A, c, hb, _⟩ := h.cell
  exact blk_lt hb
theorem RRd.kept {w w' : World} {g : Nat} {xs : List Int} {br : Bool} (h : RRd p w g xs br) {row : Option Nat} (hg : w.grownBy w' row) (hne : some g ≠ row) (hdata : ∀ ad : Addr, some ad.block = row → ∀ A c, w.heap[g]? = some (.cells #[.slice A xs.length c, .bool br] 80 (0, 0)) → 0 < xs.length → A ≠ some ad) : RRd p w' g xs br := by
  obtain ⟨A, c, hb, hc, hr, hn⟩ := h.cell
  refine ⟨⟨A, c, (hg.block g (blk_lt hb) hne).trans hb, hc, reads_kept hr fun ad e h0 hl => hg.block _ hl (fun e2 => hdata ad e2 A c hb h0 e), hn⟩, h.small, h.bytes, fun A' c' hb' => h.dat A' c' ((hg.block g (blk_lt hb) hne).symm.trans hb')⟩
theorem RRd.far {w w' : World} {g : Nat} {xs : List Int} {br : Bool} (h : RRd p w g xs br) {row : Option Nat} (hg : w.grownBy w' row) (hne : some g ≠ row) (hp : ∀ k, row = some k → ¬ p k) : RRd p w' g xs br := h.kept hg hne fun ad e A c hb h0 hA => hp ad.block e.symm (h.dat A c hb ad hA h0)
theorem RRd.new {w1 : World} {A1 : Option Addr} {c1 : Nat} {xs : List Int} (hr : ReadsInt w1 .u8 A1 xs.length xs) (hc : xs.length ≤ c1) (hb : Bytes xs) (hs : xs.length ≤ 140737488355328) (hp : ∀ ad, A1 = some ad → 0 < xs.length → p ad.block) :
    RRd p (w1.alloc (.cells #[.slice A1 xs.length c1, .bool false] 80)) w1.heap.size xs false := by
  refine ⟨⟨A1, c1, blk_new _ _, hc, hr.below (below_alloc (Below.refl _ _) _), fun ad e h0 e2 => ?_⟩, hs, hb, fun A c h => by
    rw [blk_new] at h
    simp only [Option.some.injEq, Obj.cells.injEq, Array.mk.injEq, List.cons.injEq, Value.slice.injEq, and_true, true_and] at h
    obtain ⟨rfl, rfl⟩ := h
    exact hp⟩
  obtain ⟨ad', e', hcell⟩ := hr.2.2 h0
  rw [e] at e'
  obtain rfl := Option.some.inj e'
  have := World.block_lt_of_cell? w1 _ (hcell 0 h0)
  have hbk : (ad.add 0).block = ad.block := by unfold Addr.add; split <;> rfl
  omega
theorem RRd.below {w w' : World} {g : Nat} {xs : List Int} {br : Bool} (h : RRd p w g xs br) (hb : Below w.heap.size w w') : RRd p w' g xs br :=
  h.kept (gofBelow (row := none) hb) (by simp) (fun ad e => by cases e)
theorem RRd.drewN {w : World} {g : Nat} {xs : List Int} {br : Bool} (h : RRd p w g xs br) (n : Nat) : RRd p (w.drewN n) g xs br := h.below (pw_below_drewN (Below.refl _ _) n)
theorem RRd.breaks {w : World} {g : Nat} {xs : List Int} {br : Bool} (h : RRd p w g xs br) : RRd p (w.setCell ⟨g, 1, none⟩ (.bool true)) g xs true := by
  obtain ⟨A, c, hb, hc, hr, hn⟩ := h.cell
  refine ⟨⟨A, c, by rw [blk_set hb]; rfl, hc, reads_kept hr fun ad e h0 hl => Below.heap_setCell w _ _ _ (hn ad e h0), hn⟩, h.small, h.bytes, fun A' c' hb' => by
    have e1 : (w.setCell ⟨g, 1, none⟩ (.bool true)).heap[g]? = some (.cells #[.slice A xs.length c, .bool true] 80 (0, 0)) := by rw [blk_set hb]; rfl
    rw [e1] at hb'
    simp only [Option.some.injEq, Obj.cells.injEq, Array.mk.injEq, List.cons.injEq, Value.slice.injEq, and_true, true_and] at hb'
    obtain ⟨rfl, rfl⟩ := hb'
    exact h.dat A c hb⟩
theorem RRd.moves {w : World} {g : Nat} {xs : List Int} {br : Bool} (h : RRd p w g xs br) {A : Option Addr} {c : Nat} (hb : w.heap[g]? = some (.cells #[.slice A xs.length c, .bool br] 80 (0, 0))) {m : Nat} (hm : m ≤ xs.length) {A' : Option Addr}
    (hr : ∀ w, ReadsInt w .u8 A xs.length xs → ReadsInt w .u8 A' (xs.drop m).length (xs.drop m)) (ha : ∀ ad', A' = some ad' → ∃ ad, A = some ad ∧ ad.block = ad'.block) :
    RRd p (w.setCell ⟨g, 0, none⟩ (.slice A' (xs.length - m) (c - m))) g (xs.drop m) br := by
  obtain ⟨A2, c2, hb2, hc, hrd, hn⟩ := h.cell
  rw [hb2] at hb
  simp only [Option.some.injEq, Obj.cells.injEq, Array.mk.injEq, List.cons.injEq, Value.slice.injEq, and_true, true_and] at hb
  obtain ⟨rfl, rfl⟩ := hb
  have hl : (xs.drop m).length = xs.length - m := List.length_drop
  have hne : ∀ ad', A' = some ad' → 0 < (xs.drop m).length → ad'.block ≠ g := fun ad' e h0 => by
    obtain ⟨ad, e1, e2⟩ := ha ad' e
    rw [← e2]
    exact hn ad e1 (by omega)
  refine ⟨⟨A', c2 - m, by rw [blk_set hb2, hl]; rfl, by omega, reads_kept (hr w hrd) fun ad e h0 hlt => Below.heap_setCell w _ _ _ (hne ad e h0), hne⟩, by have := h.small; omega, h.bytes.drop m, fun A9 c9 hb9 ad9 e9 h9 => by
    have e1 : (w.setCell ⟨g, 0, none⟩ (.slice A' (xs.length - m) (c2 - m))).heap[g]? = some (.cells #[.slice A' (xs.drop m).length (c2 - m), .bool br] 80 (0, 0)) := by rw [blk_set hb2, hl]; rfl
    rw [e1] at hb9
    simp only [Option.some.injEq, Obj.cells.injEq, Array.mk.injEq, List.cons.injEq, Value.slice.injEq, and_true, true_and] at hb9
    obtain ⟨rfl, rfl⟩ := hb9
    obtain ⟨ad, e1, e2⟩ := ha ad9 e9
    rw [← e2]
    exact h.dat A2 c2 hb2 ad e1 (by omega)⟩
set_option maxRecDepth 100000 in
theorem step_no (g : Nat) (xs : List Int) (br : Bool) (n : Int) (w : World) (h : RRd p w g xs br) (hn : n < 0 ∨ n > (xs.length : Int)) :
    Calls Tryd.prog 59 #[.pointer (some ⟨g, 0, none⟩), .int .i64 n] w fun e w' => ∃ v, e = .returned v ∧ OB w' w.heap.size v [] ∧ RRd p w' g xs true ∧ w.grownBy w' (some g) := by
  have H := Lib.hid h
  obtain ⟨A, c, hb, hc, hr, hne⟩ := h.cell
  have h0 := blk_cell hb 0
  have h2 := blk_cell hb 1
  have f2 := blk_frozen hb 1
  simp only [List.getElem?_toArray, List.getElem?_cons_succ, List.getElem?_cons_zero] at h0 h2
  clear hb hc hr hne h
  by_cases h1 : n < 0
  · have hd : decide (n < 0) = true := decide_eq_true h1
    clear hn
    go_enter Tryd.func59, Tryd.ntmps59
    go_wp2_with fail
    go_ret
    exact ⟨_, rfl, own_nil _ _ _ _, H.out.breaks, gset (World.grownBy.refl _ _) _ _⟩
  · have hd : decide (n < 0) = false := decide_eq_false h1
    have hd2 : decide ((xs.length : Int) < n) = true := decide_eq_true (by omega)
    clear hn
    go_enter Tryd.func59, Tryd.ntmps59
    go_wp2_with fail
    go_ret
    exact ⟨_, rfl, own_nil _ _ _ _, H.out.breaks, gset (World.grownBy.refl _ _) _ _⟩
theorem step_ok (g : Nat) (xs : List Int) (br : Bool) (n : Int) (w : World) (h : RRd p w g xs br) (hn0 : 0 ≤ n) (hn1 : n ≤ (xs.length : Int)) :
    Calls Tryd.prog 59 #[.pointer (some ⟨g, 0, none⟩), .int .i64 n] w fun e w' => ∃ v, e = .returned v ∧ OB w' w.heap.size v (xs.take n.toNat) ∧ RRd p w' g (xs.drop n.toNat) br ∧ w.grownBy w' (some g) := by
  have H := Lib.hid h
  obtain ⟨k, rfl⟩ := Int.eq_ofNat_of_zero_le hn0
  rw [Int.toNat_natCast]
  have hkl : k ≤ xs.length := by omega
  obtain ⟨A, c, hb, hc, hr, hne⟩ := h.cell
  have hg := blk_lt hb
  have h0 := blk_cell hb 0
  have f0 := blk_frozen hb 0
  simp only [List.getElem?_toArray, List.getElem?_cons_succ, List.getElem?_cons_zero] at h0
  obtain ⟨A', hcut, hrd, hA'⟩ := cutFrom A xs c k hkl hc
  have hto := cut_to (P := Tryd.prog) 41 5 .i64 Tryd.underlying41 (info_parts infoU8).choose_spec.1 A xs.length c (k : Int) (by omega) (by omega) hc
  simp only [Int.toNat_natCast] at hto
  have hrt := hr.take_ k hkl
  obtain ⟨ys, hys⟩ : ∃ ys, ys = xs.take k := ⟨_, rfl⟩
  rw [← hys] at hrt ⊢
  have hyl : ys.length ≤ 140737488355328 := by rw [hys, List.length_take]; have := h.small; omega
  have hyk : k ≤ 140737488355328 := by have := h.small; omega
  have Hb := Lib.hid hb
  have HM := Lib.hid hrd
  have HA := Lib.hid hA'
  have Hr := Lib.hid hrt
  have Hkl := Lib.hid hkl
  have h0a : ∀ (n : Nat) (o : Obj), ((w.drewN n).alloc o).cell? ⟨g, 0, none⟩ = some (.slice A xs.length c) := fun n o => pw_cell_below (below_alloc (pw_below_drewN (Below.refl _ _) _) _) h0
  have hd : decide ((k : Int) < 0) = false := decide_eq_false (by omega)
  have hd2 : decide (xs.length < k) = false := decide_eq_false (by omega)
  clear hb hc hr hne h hrd hA' hkl hn0 hn1 hrt hys
  go_enter Tryd.func59, Tryd.ntmps59
  go_wp2_with (at_builtin; refine print_append_row (w0 := w) w.heap.size rfl (.tmp 20) (.tmp 26) 41 5 .u8 1 rfl Tryd.underlying41 infoU8 (by decide) (.slice none 0 0) [] ys A k c rfl rfl ?own ?reads ?below ?size ?len ?_; (case own => exact own_nil _ _ _ _); (case reads => exact Hr.out); (case below => exact Below.refl _ _); (case size => simp); (case len => simp; omega); intro v1 w1 hown hb1 hg1 hat; rw [List.nil_append] at hown; obtain ⟨A1, c1, rfl, hc1, hr1⟩ := OB.slice hown; have HO := Lib.hid hown; have HB := Lib.hid hb1; have h0' := (hb1.cell (p := ⟨g, 0, none⟩) hg).trans h0; have f0' := (hb1.frozen (p := ⟨g, 0, none⟩) hg).trans f0; have Hb' := Lib.hid ((hb1.block g hg).trans Hb.out); clear hown hb1 hr1 hg1 hat)
  go_ret
  exact ⟨_, rfl, OB.set HO.out hg _ _, (H.out.below HB.out).moves Hb'.out Hkl.out HM.out HA.out, gset (gofBelow HB.out) _ _⟩
set_option maxHeartbeats 400000 in
set_option maxRecDepth 100000 in
theorem refnum_calls (g : Nat) (xs : List Int) (br : Bool) (w : World) (h : RRd p w g xs br) :
    Calls Tryd.prog 35 #[.pointer (some ⟨g, 0, none⟩)] w fun e w' => e = .returned (.int .u64 ((rNum (xs, br)).1 : Int)) ∧ RRd p w' g (rNum (xs, br)).2.1 (rNum (xs, br)).2.2 ∧ w.grownBy w' (some g) := by
  have H := Lib.hid h
  obtain ⟨A, c, hb, hc, hr, hne⟩ := h.cell
  have h0 := blk_cell hb 0
  have h1 := blk_cell hb 1
  simp only [List.getElem?_toArray, List.getElem?_cons_succ, List.getElem?_cons_zero] at h0 h1
  have HF := Lib.hid (first_calls A c xs w hr hc h.bytes h.small)
  clear hb hc hr hne h
  cases br with
  | true =>
    go_enter Tryd.func35, Tryd.ntmps35
    go_wp2
    go_ret
    exact ⟨rfl, H.out, World.grownBy.refl _ _⟩
  | false =>
    obtain ⟨⟨m, k⟩, hd⟩ : ∃ q, dec xs = q := ⟨_, rfl⟩
    have e : rNum (xs, false) = if k = 0 then (0, (xs, true)) else (m, (xs.drop k, false)) := by unfold rNum; simp only [Bool.false_eq_true, if_false]; rw [hd]
    rw [hd] at HF
    by_cases hk : k = 0
    · subst hk
      have hm := dec_none xs m hd
      subst hm
      rw [e, if_pos rfl]
      clear e hd
      go_enter Tryd.func35, Tryd.ntmps35
      go_wp2_with fail
      refine HF.out.mono ?_; rintro e w1 ⟨rfl, hb1⟩; have HB1 := Lib.hid hb1; clear hb1
      go_wp2_with fail
      refine (step_no g xs false (-1) _ (H.out.below HB1.out) (by omega)).mono ?_; rintro e w2 ⟨v2, rfl, ho2, hr2, hg2⟩; have HR2 := Lib.hid hr2; have HG2 := Lib.hid (gtrans (gofBelow HB1.out) hg2); clear ho2 hr2 hg2
      go_wp2
      go_ret
      exact ⟨rfl, HR2.out, HG2.out⟩
    · have hkl := (dec_back xs H.out.bytes m k hd hk).2.2.2.1
      have hk10 := (dec_back xs H.out.bytes m k hd hk).2.2.2.2.2
      rw [e, if_neg hk]
      have hkz : decide (k = 0) = false := decide_eq_false hk
      clear e hd
      go_enter Tryd.func35, Tryd.ntmps35
      go_wp2_with fail
      refine HF.out.mono ?_; rintro e w1 ⟨rfl, hb1⟩; have HB1 := Lib.hid hb1; clear hb1
      have kz : ((k : Int) == 0) = false := beq_eq_false_iff_ne.mpr (by omega)
      go_wp2_with fail
      refine (step_ok g xs false (k : Int) _ (H.out.below HB1.out) (by omega) (by omega)).mono ?_; rintro e w2 ⟨v2, rfl, ho2, hr2, hg2⟩; have HR2 := Lib.hid hr2; have HG2 := Lib.hid (gtrans (gofBelow HB1.out) hg2); clear ho2 hr2 hg2
      go_wp2
      go_ret
      exact ⟨rfl, HR2.out, HG2.out⟩
end Go.Proofs.YtijjecnmdhefbaaDoor.BQ

namespace Go.Proofs.YtijjecnmdhefbaaDoor.BR
open Go.RowKit Go.Proofs.YtijjecnmdhefbaaDoorW.PrintWords Go.Proofs.YtijjecnmdhefbaaDoorW.PrintLast Go.Proofs.YtijjecnmdhefbaaDoorW.PrintMore Go.Proofs.YtijjecnmdhefbaaDoor.CD
set_option linter.unusedVariables false
set_option linter.unusedSimpArgs false
theorem zag_f (n : Nat) (hn : n < 18446744073709551616) : PRegionSupers.bedrockref04_Back.f (n : Int) = some (zag n) := by
  unfold PRegionSupers.bedrockref04_Back.f zag
  rw [Int.tmod_eq_emod_of_nonneg (by omega), Int.tdiv_eq_ediv_of_nonneg (by omega), CF.wu64]
  by_cases h : n % 2 = 0
  · rw [if_pos (by omega), if_pos h]; congr 1; unfold wrap64; omega
  · rw [if_neg (by omega), if_neg h]; congr 1; unfold wrap64; omega
set_option maxRecDepth 100000 in
theorem refint_calls (g : Nat) (xs : List Int) (br : Bool) (w : World) (h : RRd w g xs br) :
    Calls Tryd.prog 36 #[.pointer (some ⟨g, 0, none⟩)] w fun e w' => e = .returned (.int .i64 (zag (rNum (xs, br)).1)) ∧ RRd w' g (rNum (xs, br)).2.1 (rNum (xs, br)).2.2 ∧ w.grownBy w' (some g) := by
  have hl := rNum_lt (xs, br) h.bytes
  have H := Lib.hid h
  have HC := Lib.hid (refnum_calls g xs br w h)
  obtain ⟨⟨m, s⟩, hs⟩ : ∃ q, rNum (xs, br) = q := ⟨_, rfl⟩
  rw [hs] at hl HC ⊢
  have HB := Lib.hid (fun W => PRegionSupers.bedrockref04_Back.calls (m : Int) _ W (zag_f m hl))
  clear h hs
  go_enter Tryd.func36, Tryd.ntmps36
  go_wp2_with fail
  refine HC.out.mono ?_; rintro e w1 ⟨rfl, hr1, hg1⟩; have HR1 := Lib.hid hr1; have HG1 := Lib.hid hg1; clear hr1 hg1
  go_wp2_with fail
  refine (HB.out _).mono ?_; rintro e w2 ⟨rfl, ⟨n2, rfl⟩⟩
  go_wp2
  go_ret
  exact ⟨rfl, HR1.out.drewN _, gdrewN HG1.out _⟩
end Go.Proofs.YtijjecnmdhefbaaDoor.BR

namespace Go.Proofs.YtijjecnmdhefbaaDoor.BQ
open Go.RowKit Go.Proofs.YtijjecnmdhefbaaDoorW.PrintWords Go.Proofs.YtijjecnmdhefbaaDoorW.PrintLast Go.Proofs.YtijjecnmdhefbaaDoorW.PrintMore Go.Proofs.YtijjecnmdhefbaaDoor.CD Go.Proofs.YtijjecnmdhefbaaDoor.BR
set_option linter.unusedVariables false
set_option linter.unusedSimpArgs false
variable {p : Nat → Prop}
set_option maxRecDepth 100000 in
theorem refint_calls (g : Nat) (xs : List Int) (br : Bool) (w : World) (h : RRd p w g xs br) :
    Calls Tryd.prog 36 #[.pointer (some ⟨g, 0, none⟩)] w fun e w' => e = .returned (.int .i64 (zag (rNum (xs, br)).1)) ∧ RRd p w' g (rNum (xs, br)).2.1 (rNum (xs, br)).2.2 ∧ w.grownBy w' (some g) := by
  have hl := rNum_lt (xs, br) h.bytes
  have H := Lib.hid h
  have HC := Lib.hid (refnum_calls g xs br w h)
  obtain ⟨⟨m, s⟩, hs⟩ : ∃ q, rNum (xs, br) = q := ⟨_, rfl⟩
  rw [hs] at hl HC ⊢
  have HB := Lib.hid (fun W => PRegionSupers.bedrockref04_Back.calls (m : Int) _ W (zag_f m hl))
  clear h hs
  go_enter Tryd.func36, Tryd.ntmps36
  go_wp2_with fail
  refine HC.out.mono ?_; rintro e w1 ⟨rfl, hr1, hg1⟩; have HR1 := Lib.hid hr1; have HG1 := Lib.hid hg1; clear hr1 hg1
  go_wp2_with fail
  refine (HB.out _).mono ?_; rintro e w2 ⟨rfl, ⟨n2, rfl⟩⟩
  go_wp2
  go_ret
  exact ⟨rfl, HR1.out.drewN _, gdrewN HG1.out _⟩
end Go.Proofs.YtijjecnmdhefbaaDoor.BQ

namespace Go.Proofs.YtijjecnmdhefbaaDoor.RG
open Go.RowKit Go.Proofs.YtijjecnmdhefbaaDoorW.PrintWords Go.Proofs.YtijjecnmdhefbaaDoorW.PrintLast Go.Proofs.YtijjecnmdhefbaaDoorW.PrintMore Go.Proofs.YtijjecnmdhefbaaDoor.CD Go.Proofs.YtijjecnmdhefbaaDoor.BR Go.Proofs.YtijjecnmdhefbaaDoor.BP
set_option linter.unusedVariables false
set_option linter.unusedSimpArgs false
theorem number_ref {p : Nat → Prop} (g : Nat) (s : St) (w : World) (h : BQ.RRd p w g s.1 s.2) :
    Calls Tryd.prog 34 #[.pointer (some ⟨g, 0, none⟩)] w fun e w' => e = .returned (.int .i64 (rNext s).1) ∧ BQ.RRd p w' g (rNext s).2.1 (rNext s).2.2 ∧ w.grownBy w' (some g) := by
  have H := Lib.hid h
  have hl := rNum_lt s h.bytes
  clear h
  have HN0 := BQ.refnum_calls g s.1 s.2 w H.out
  obtain ⟨⟨m, s'⟩, hq⟩ : ∃ q, rNum (s.1, s.2) = q := ⟨_, rfl⟩
  have hq' : rNum s = (m, s') := hq
  unfold rNext
  rw [hq'] at hl ⊢
  rw [hq] at HN0
  simp only at HN0 hl ⊢
  have HN := Lib.hid HN0
  clear hq hq' HN0
  by_cases hm : m > 4611686018427387904
  · have hd : decide ((4611686018427387904 : Int) < (m : Int)) = true := decide_eq_true (by omega)
    rw [if_pos hm]
    clear hm hl
    go_enter Tryd.func34, Tryd.ntmps34
    go_wp2_with fail
    refine HN.out.mono ?_; rintro e w' ⟨rfl, hr, hg⟩
    go_wp2
    go_ret
    exact ⟨rfl, hr, hg⟩
  · have hd : decide ((4611686018427387904 : Int) < (m : Int)) = false := decide_eq_false (by omega)
    have hw : IntKind.i64.wrap (m : Int) = (m : Int) := by rw [IntKind.wrap_i64]; omega
    have hw2 : wrap64 (m : Int) = (m : Int) := by unfold wrap64; omega
    rw [if_neg hm]
    clear hm hl
    go_enter Tryd.func34, Tryd.ntmps34
    go_wp2_with fail
    refine HN.out.mono ?_; rintro e w' ⟨rfl, hr, hg⟩
    go_wp2
    go_ret
    exact ⟨rfl, hr, hg⟩
structure Rx (w0 W : World) (g : Nat) (s : St) : Prop where
  rdr : BQ.RRd (fun k => k < g) W g s.1 s.2
  below : Below w0.heap.size w0 W
  g1 : w0.heap.size ≤ g
theorem Rx.under {w0 W W' : World} {g : Nat} {s : St} (h : Rx w0 W g s) (hb : Below W.heap.size W W') : Rx w0 W' g s := ⟨h.rdr.below hb, below_step h.below hb, h.g1⟩
theorem Rx.far {w0 W W' : World} {g : Nat} {s : St} (h : Rx w0 W g s) {row : Option Nat} (hg : W.grownBy W' row) (hr : ∀ k, row = some k → g < k) : Rx w0 W' g s :=
  ⟨h.rdr.far hg (fun e => by have := hr g e.symm; omega) (fun k e => by have := hr k e; omega), h.below.grown hg h.below.size (fun k e => by have := hr k e; have := h.g1; omega), h.g1⟩
theorem Rx.step {w0 W W' : World} {g : Nat} {s s' : St} (h : Rx w0 W g s) (hr : BQ.RRd (fun k => k < g) W' g s'.1 s'.2) (hg : W.grownBy W' (some g)) : Rx w0 W' g s' := ⟨hr, belowg h.below hg h.below.size h.g1, h.g1⟩
theorem number_calls' (w0 : World) (g : Nat) (s : St) (w : World) (h : Rx w0 w g s) :
    Calls Tryd.prog 34 #[.pointer (some ⟨g, 0, none⟩)] w fun e w' => e = .returned (.int .i64 (rNext s).1) ∧ Rx w0 w' g (rNext s).2 ∧ w.grownBy w' (some g) :=
  (number_ref g s w h.rdr).mono fun e w' ⟨he, hr, hg⟩ => ⟨he, h.step hr hg, hg⟩
end Go.Proofs.YtijjecnmdhefbaaDoor.RG

namespace Go.Proofs.YtijjecnmdhefbaaDoor.SP
open Go.RowKit Go.Proofs.YtijjecnmdhefbaaDoorW.PrintWords Go.Proofs.YtijjecnmdhefbaaDoorW.PrintLast Go.Proofs.YtijjecnmdhefbaaDoorW.PrintMore Go.Proofs.YtijjecnmdhefbaaDoor.CD Go.Proofs.YtijjecnmdhefbaaDoor.BR Go.Proofs.YtijjecnmdhefbaaDoor.BP Go.Proofs.YtijjecnmdhefbaaDoor.RG
set_option linter.unusedVariables false
set_option linter.unusedSimpArgs false
set_option maxRecDepth 100000
theorem numR_calls (w0 : World) (g : Nat) (s : St) (w : World) (h : Rx w0 w g s) :
    Calls Tryd.prog 35 #[.pointer (some ⟨g, 0, none⟩)] w fun e w' => e = .returned (.int .u64 ((rNum s).1 : Int)) ∧ Rx w0 w' g (rNum s).2 ∧ w.grownBy w' (some g) :=
  (BQ.refnum_calls g s.1 s.2 w h.rdr).mono fun e w' hh => ⟨hh.1, h.step hh.2.1 hh.2.2, hh.2.2⟩
theorem intR_calls (w0 : World) (g : Nat) (s : St) (w : World) (h : Rx w0 w g s) :
    Calls Tryd.prog 36 #[.pointer (some ⟨g, 0, none⟩)] w fun e w' => e = .returned (.int .i64 (rInt' s).1) ∧ Rx w0 w' g (rInt' s).2 ∧ w.grownBy w' (some g) :=
  (BQ.refint_calls g s.1 s.2 w h.rdr).mono fun e w' hh => ⟨hh.1, h.step hh.2.1 hh.2.2, hh.2.2⟩
structure GR (w0 W : World) (g G : Nat) (st : St) (s : Sup) : Prop where
  rx : Rx w0 W g st
  sup : SupAt W G s
  gG : g < G
theorem GR.under {w0 W W' : World} {g G : Nat} {st : St} {s : Sup} (h : GR w0 W g G st s) (hb : Below W.heap.size W W') : GR w0 W' g G st s := ⟨h.rx.under hb, h.sup.below hb h.sup.lt, h.gG⟩
theorem GR.read {w0 W W' : World} {g G : Nat} {st st' : St} {s : Sup} (h : GR w0 W g G st s) (hn : Rx w0 W' g st') (hg : W.grownBy W' (some g)) : GR w0 W' g G st' s :=
  ⟨hn, blk_grown h.sup hg (fun e => by have := h.gG; injection e with e; omega), h.gG⟩
theorem GR.set {w0 W : World} {g G : Nat} {st : St} {s : Sup} (h : GR w0 W g G st s) (i : Nat) (v : Value) {s' : Sup} (e : (supC s).set i v = supC s') : GR w0 (W.setCell ⟨G, i, none⟩ v) g G st s' :=
  ⟨h.rx.far (gset (World.grownBy.refl W _) i v) (fun k hk => by injection hk with hk; have := h.gG; omega), blk_put h.sup i v (by rw [List.setIfInBounds_toArray, e]), h.gG⟩
theorem next_one (t : St) : (decide ((rNext t).1 = 1) = decide (((rNum t).1 : Int) = 1)) ∧ (rNext t).2 = (rNum t).2 := by
  refine ⟨?_, rfl⟩
  unfold rNext
  simp only
  split
  · rw [decide_eq_false (by omega), decide_eq_false (by omega)]
  · rfl
set_option maxHeartbeats 16000000 in
theorem rgetSuper_calls (sector : ByteArray) (w : World) :
    Calls Tryd.prog 9 #[.string sector] w fun e w' => Gets sector w e w' := by
  go_enter Tryd.func9, Tryd.ntmps9
  go_upto_region 1 with fail
  have HA := Lib.hid (SupAt.new w zeroS)
  have HBa := Lib.hid (below_alloc (Below.refl w.heap.size w) (.cells (supC zeroS).toArray 33))
  obtain ⟨W1, hW1⟩ : ∃ W, w.alloc (.cells (supC zeroS).toArray 33) = W := ⟨_, rfl⟩
  rw [hW1] at HA HBa
  rw [show w.alloc (.cells #[.int .i64 0, .int .i64 0, .int .u64 0, .int .i64 0, .int .i64 0, .int .i64 0, .bool false, .int .i64 0, .int .i64 0, .int .i64 0, .bool false, .int .i64 0, .int .i64 0, .int .i64 0, .int .i64 0, .int .i64 0, .int .i64 0, .int .i64 0] 33) = W1 from hW1]
  clear hW1
  obtain ⟨R, hR⟩ : ∃ R, w.heap.size = R := ⟨_, rfl⟩
  have HRb := Lib.hid hR
  rw [hR] at HA
  rw [hR]
  clear hR
  by_cases hl : sector.size = 512
  · have hn1 : ((sector.size : Int) != 512) = false := by rw [hl]; rfl
    have hts : (sector.extract 8 512).size = 504 := by
      rw [← BS.size_bytesOf, BS.bytesOf_extract, List.length_drop, List.length_take, BS.size_bytesOf, hl]; rfl
    have HX := Lib.hid (show bytesOf (sector.extract 8 512) = (bytesOf sector).drop 8 by rw [BS.bytesOf_extract, List.take_of_length_le (by rw [BS.size_bytesOf, hl]; exact Nat.le_refl _)])
    have hcv := bytes_run (sector.extract 8 512) W1
    have hrd := bw_reads W1 (sector.extract 8 512) (by omega)
    have hbb := BS.bytes_bytesOf (sector.extract 8 512)
    have hcap := grownCap_ge W1 504 0 5
    have HA2 := Lib.hid (HA.out.below (bw_below W1 (sector.extract 8 512)) HA.out.lt)
    have HB3 := Lib.hid (below_step HBa.out (bw_below W1 (sector.extract 8 512)))
    have hsz0 := Lib.bytesWorld_size W1 5 (sector.extract 8 512)
    rw [hts] at hcv
    obtain ⟨w0, hw0⟩ : ∃ w0, bw W1 (sector.extract 8 512) = w0 := ⟨_, rfl⟩
    obtain ⟨c3, hc3⟩ : ∃ c, grownCap W1 504 0 5 = c := ⟨_, rfl⟩
    obtain ⟨X, hX⟩ : ∃ X, bytesOf (sector.extract 8 512) = X := ⟨_, rfl⟩
    have hXl : X.length = 504 := by rw [← hX, BS.size_bytesOf, hts]
    rw [hw0, hc3] at hcv
    rw [hw0] at HA2 HB3
    rw [hw0, hX] at hrd
    rw [hX] at hbb HX
    rw [hc3] at hcap
    have hs0 : w0.heap.size = W1.heap.size + 1 := by rw [← hw0]; exact hsz0
    clear hsz0 hX hc3
    have HRX : Hid (Rx w0 (w0.alloc (.cells #[.slice (some ⟨W1.heap.size, 0, none⟩) X.length c3, .bool false] 80)) w0.heap.size (X, false)) := Lib.hid
      ⟨BQ.RRd.new hrd (by omega) hbb (by omega) (fun ad e h0 => by obtain rfl := Option.some.inj e; show W1.heap.size < w0.heap.size; omega), below_alloc (Below.refl _ _) _, Nat.le_refl _⟩
    rw [hXl] at HRX
    clear hrd hbb hcap hs0 hXl hts
    go_upto_region 5 with fail
    try rw [hw0]
    clear hw0 hcv
    obtain ⟨W5, hW5⟩ : ∃ W, w0.alloc (.cells #[.slice (some ⟨W1.heap.size, 0, none⟩) 504 c3, .bool false] 80) = W := ⟨_, rfl⟩
    rw [hW5] at HRX
    rw [hW5]
    have HG5 : Hid (GR w0 (W5.alloc (.cells (supC zeroS).toArray 33)) w0.heap.size (w0.heap.size + 1) (X, false) zeroS) := Lib.hid (by
      have hsz : W5.heap.size = w0.heap.size + 1 := by rw [← hW5]; simp
      have k := SupAt.new W5 zeroS
      rw [hsz] at k
      exact ⟨HRX.out.under (below_alloc (Below.refl _ _) _), k, by omega⟩)
    obtain ⟨W6, hW6⟩ : ∃ W, W5.alloc (.cells (supC zeroS).toArray 33) = W := ⟨_, rfl⟩
    rw [hW6] at HG5
    rw [show W5.alloc (.cells #[.int .i64 0, .int .i64 0, .int .u64 0, .int .i64 0, .int .i64 0, .int .i64 0, .bool false, .int .i64 0, .int .i64 0, .int .i64 0, .bool false, .int .i64 0, .int .i64 0, .int .i64 0, .int .i64 0, .int .i64 0, .int .i64 0, .int .i64 0] 33) = W6 from hW6]
    obtain ⟨g, hgg⟩ : ∃ g, w0.heap.size = g := ⟨_, rfl⟩
    obtain ⟨G, hGG⟩ : ∃ G, g + 1 = G := ⟨_, rfl⟩
    rw [hgg, hGG] at HG5
    rw [hgg, hGG]
    clear hW6 hW5 HRX hGG hn1 hl HA HBa
    go_wp2_with fail
    refine (number_calls' w0 g (X, false) _ HG5.out.rx).mono ?_; rintro e wq1 ⟨rfl, hnq1, hgq1⟩
    obtain ⟨q1, hq1⟩ : ∃ q, rNext (X, false) = q := ⟨_, rfl⟩
    rw [hq1] at hnq1 ⊢
    have HEq1 := Lib.hid hq1
    have HRq1 := Lib.hid (HG5.out.read hnq1 hgq1)
    clear hq1 hnq1 hgq1
    obtain ⟨c0, c1, c2, c3, c4, c5, c6, c7, c8, c9, c10, c11, c12, c13, c14, c15, c16, c17⟩ := HRq1.out.sup.cells
    have fz := blk_frozen HRq1.out.sup 0
    go_upto_region 7 with fail
    have HS1 := Lib.hid (HRq1.out.set 0 (.int .i64 q1.1) (s' := (⟨q1.1, 0, 0, zeroA, zeroA, 0, 0, 0, 0, 0, 0, 0⟩ : Sup)) rfl)
    obtain ⟨V1, hV1⟩ : ∃ W, wq1.setCell ⟨G, 0, none⟩ (.int .i64 q1.1) = W := ⟨_, rfl⟩
    rw [hV1] at HS1
    rw [hV1]
    clear hV1 fz c0 c1 c2 c3 c4 c5 c6 c7 c8 c9 c10 c11 c12 c13 c14 c15 c16 c17
    go_wp2_with fail
    refine (numR_calls w0 g q1.2 _ HS1.out.rx).mono ?_; rintro e wq2 ⟨rfl, hnq2, hgq2⟩
    have HLT := Lib.hid (rNum_lt q1.2 HS1.out.rx.rdr.bytes)
    obtain ⟨q2, hq2⟩ : ∃ q, rNum q1.2 = q := ⟨_, rfl⟩
    rw [hq2] at hnq2 HLT ⊢
    have HEq2 := Lib.hid hq2
    have HRq2 := Lib.hid (HS1.out.read hnq2 hgq2)
    clear hq2 hnq2 hgq2
    obtain ⟨c0, c1, c2, c3, c4, c5, c6, c7, c8, c9, c10, c11, c12, c13, c14, c15, c16, c17⟩ := HRq2.out.sup.cells
    have fz := blk_frozen HRq2.out.sup 2
    go_upto_region 8 with fail
    have HS2 := Lib.hid (HRq2.out.set 2 (.int .u64 (q2.1 : Int)) (s' := (⟨q1.1, q2.1, 0, zeroA, zeroA, 0, 0, 0, 0, 0, 0, 0⟩ : Sup)) rfl)
    obtain ⟨V2, hV2⟩ : ∃ W, wq2.setCell ⟨G, 2, none⟩ (.int .u64 (q2.1 : Int)) = W := ⟨_, rfl⟩
    rw [hV2] at HS2
    rw [hV2]
    clear hV2 fz c0 c1 c2 c3 c4 c5 c6 c7 c8 c9 c10 c11 c12 c13 c14 c15 c16 c17
    go_wp2_with fail
    refine (number_calls' w0 g q2.2 _ HS2.out.rx).mono ?_; rintro e wq3 ⟨rfl, hnq3, hgq3⟩
    obtain ⟨q3, hq3⟩ : ∃ q, rNext q2.2 = q := ⟨_, rfl⟩
    rw [hq3] at hnq3 ⊢
    have HEq3 := Lib.hid hq3
    have HRq3 := Lib.hid (HS2.out.read hnq3 hgq3)
    clear hq3 hnq3 hgq3
    obtain ⟨c0, c1, c2, c3, c4, c5, c6, c7, c8, c9, c10, c11, c12, c13, c14, c15, c16, c17⟩ := HRq3.out.sup.cells
    have fz := blk_frozen HRq3.out.sup 1
    go_upto_region 9 with fail
    have HS3 := Lib.hid (HRq3.out.set 1 (.int .i64 q3.1) (s' := (⟨q1.1, q2.1, q3.1, zeroA, zeroA, 0, 0, 0, 0, 0, 0, 0⟩ : Sup)) rfl)
    obtain ⟨V3, hV3⟩ : ∃ W, wq3.setCell ⟨G, 1, none⟩ (.int .i64 q3.1) = W := ⟨_, rfl⟩
    rw [hV3] at HS3
    rw [hV3]
    clear hV3 fz c0 c1 c2 c3 c4 c5 c6 c7 c8 c9 c10 c11 c12 c13 c14 c15 c16 c17
    obtain ⟨a, ha⟩ : ∃ a, q1.1 = a := ⟨_, rfl⟩
    obtain ⟨b, hb⟩ : ∃ b, q2.1 = b := ⟨_, rfl⟩
    obtain ⟨c, hc⟩ : ∃ c, q3.1 = c := ⟨_, rfl⟩
    obtain ⟨t, ht⟩ : ∃ t, q3.2 = t := ⟨_, rfl⟩
    rw [ha, hb, hc, ht] at HS3
    rw [hb] at HLT
    have Ha := Lib.hid ha
    have Hb := Lib.hid hb
    have Hc := Lib.hid hc
    have Ht := Lib.hid ht
    clear ha hb hc ht
    go_wp2_with fail
    go_loopw [7] (fun iv W => ∃ i : Nat, i ≤ 2 ∧ iv = .int .i64 (i : Int) ∧ Aside0 (GR w0 W g G (stI t i) (supI a b c t i))) (fun iv _ => 2 - (intOf iv).toNat)
    case atStart => exact ⟨0, by omega, rfl, ⟨HS3.out⟩⟩
    case round =>
      obtain ⟨i, hi, rfl, ⟨hp⟩⟩ := hrel
      have hi3 : i = 0 ∨ i = 1 ∨ i = 2 := by omega
      rcases hi3 with rfl | rfl | rfl
      ·
        have hp0 : GR w0 wr g G t ⟨a, b, c, zeroA, zeroA, 0, 0, 0, 0, 0, 0, 0⟩ := hp
        obtain ⟨t0, ht0⟩ : ∃ s, t = s := ⟨_, rfl⟩
        rw [ht0] at hp0
        have HT0 := Lib.hid ht0
        have HG0 := Lib.hid hp0
        clear hp hp0 ht0
        go_wp2_with fail
        refine (numR_calls w0 g t0 _ HG0.out.rx).mono ?_; rintro e wo ⟨rfl, hno, hgo⟩
        obtain ⟨o, ho⟩ : ∃ q, rNum t0 = q := ⟨_, rfl⟩
        rw [ho] at hno ⊢
        have HEo := Lib.hid ho
        have HRo := Lib.hid (HG0.out.read hno hgo)
        clear ho hno hgo
        go_wp2_with fail
        refine (intR_calls w0 g o.2 _ HRo.out.rx).mono ?_; rintro e wx ⟨rfl, hnx, hgx⟩
        obtain ⟨x, hx⟩ : ∃ q, rInt' o.2 = q := ⟨_, rfl⟩
        rw [hx] at hnx ⊢
        have HEx := Lib.hid hx
        have HRx := Lib.hid (HRo.out.read hnx hgx)
        clear hx hnx hgx
        go_wp2_with fail
        refine (intR_calls w0 g x.2 _ HRx.out.rx).mono ?_; rintro e wy ⟨rfl, hny, hgy⟩
        obtain ⟨y, hy⟩ : ∃ q, rInt' x.2 = q := ⟨_, rfl⟩
        rw [hy] at hny ⊢
        have HEy := Lib.hid hy
        have HRy := Lib.hid (HRx.out.read hny hgy)
        clear hy hny hgy
        go_wp2_with fail
        refine (intR_calls w0 g y.2 _ HRy.out.rx).mono ?_; rintro e wz ⟨rfl, hnz, hgz⟩
        obtain ⟨z, hz⟩ : ∃ q, rInt' y.2 = q := ⟨_, rfl⟩
        rw [hz] at hnz ⊢
        have HEz := Lib.hid hz
        have HRz := Lib.hid (HRy.out.read hnz hgz)
        clear hz hnz hgz
        obtain ⟨c0, c1, c2, c3, c4, c5, c6, c7, c8, c9, c10, c11, c12, c13, c14, c15, c16, c17⟩ := HRz.out.sup.cells
        have f3 := blk_frozen HRz.out.sup 3
        have f4 := blk_frozen HRz.out.sup 4
        have f5 := blk_frozen HRz.out.sup 5
        have f6 := blk_frozen HRz.out.sup 6
        go_wp2_with fail
        have K1 := HRz.out.set 3 (.int .i64 x.1) (s' := (⟨a, b, c, ⟨zeroA.on, x.1, zeroA.y, zeroA.z⟩, zeroA, 0, 0, 0, 0, 0, 0, 0⟩ : Sup)) rfl
        have K2 := K1.set 4 (.int .i64 y.1) (s' := (⟨a, b, c, ⟨zeroA.on, x.1, y.1, zeroA.z⟩, zeroA, 0, 0, 0, 0, 0, 0, 0⟩ : Sup)) rfl
        have K3 := K2.set 5 (.int .i64 z.1) (s' := (⟨a, b, c, ⟨zeroA.on, x.1, y.1, z.1⟩, zeroA, 0, 0, 0, 0, 0, 0, 0⟩ : Sup)) rfl
        have K4 := K3.set 6 (.bool (((o.1 : Nat) : Int) == 1)) (s' := (⟨a, b, c, ⟨(decide (((o.1 : Nat) : Int) = 1)), x.1, y.1, z.1⟩, zeroA, 0, 0, 0, 0, 0, 0, 0⟩ : Sup)) rfl
        have HN1 := next_one t0
        have HRA : readA t0 = (⟨decide (((o.1 : Nat) : Int) = 1), x.1, y.1, z.1⟩, z.2) := by
          unfold readA
          simp only [HN1.1, HN1.2, HEo.out, HEx.out, HEy.out, HEz.out]
        go_roundw
        case rel => exact ⟨1, by omega, rfl, ⟨by show GR w0 _ g G (readA t).2 ⟨a, b, c, (readA t).1, zeroA, 0, 0, 0, 0, 0, 0, 0⟩; rw [HT0.out, HRA]; exact K4⟩⟩
        case measure => simp [intOf]
      ·
        have hp0 : GR w0 wr g G (readA t).2 ⟨a, b, c, (readA t).1, zeroA, 0, 0, 0, 0, 0, 0, 0⟩ := hp
        obtain ⟨A0, hA0⟩ : ∃ A, (readA t).1 = A := ⟨_, rfl⟩
        rw [hA0] at hp0
        have HA0 := Lib.hid hA0
        clear hA0
        obtain ⟨t0, ht0⟩ : ∃ s, (readA t).2 = s := ⟨_, rfl⟩
        rw [ht0] at hp0
        have HT0 := Lib.hid ht0
        have HG0 := Lib.hid hp0
        clear hp hp0 ht0
        go_wp2_with fail
        refine (numR_calls w0 g t0 _ HG0.out.rx).mono ?_; rintro e wo ⟨rfl, hno, hgo⟩
        obtain ⟨o, ho⟩ : ∃ q, rNum t0 = q := ⟨_, rfl⟩
        rw [ho] at hno ⊢
        have HEo := Lib.hid ho
        have HRo := Lib.hid (HG0.out.read hno hgo)
        clear ho hno hgo
        go_wp2_with fail
        refine (intR_calls w0 g o.2 _ HRo.out.rx).mono ?_; rintro e wx ⟨rfl, hnx, hgx⟩
        obtain ⟨x, hx⟩ : ∃ q, rInt' o.2 = q := ⟨_, rfl⟩
        rw [hx] at hnx ⊢
        have HEx := Lib.hid hx
        have HRx := Lib.hid (HRo.out.read hnx hgx)
        clear hx hnx hgx
        go_wp2_with fail
        refine (intR_calls w0 g x.2 _ HRx.out.rx).mono ?_; rintro e wy ⟨rfl, hny, hgy⟩
        obtain ⟨y, hy⟩ : ∃ q, rInt' x.2 = q := ⟨_, rfl⟩
        rw [hy] at hny ⊢
        have HEy := Lib.hid hy
        have HRy := Lib.hid (HRx.out.read hny hgy)
        clear hy hny hgy
        go_wp2_with fail
        refine (intR_calls w0 g y.2 _ HRy.out.rx).mono ?_; rintro e wz ⟨rfl, hnz, hgz⟩
        obtain ⟨z, hz⟩ : ∃ q, rInt' y.2 = q := ⟨_, rfl⟩
        rw [hz] at hnz ⊢
        have HEz := Lib.hid hz
        have HRz := Lib.hid (HRy.out.read hnz hgz)
        clear hz hnz hgz
        obtain ⟨c0, c1, c2, c3, c4, c5, c6, c7, c8, c9, c10, c11, c12, c13, c14, c15, c16, c17⟩ := HRz.out.sup.cells
        have f7 := blk_frozen HRz.out.sup 7
        have f8 := blk_frozen HRz.out.sup 8
        have f9 := blk_frozen HRz.out.sup 9
        have f10 := blk_frozen HRz.out.sup 10
        go_wp2_with fail
        have K1 := HRz.out.set 7 (.int .i64 x.1) (s' := (⟨a, b, c, A0, ⟨zeroA.on, x.1, zeroA.y, zeroA.z⟩, 0, 0, 0, 0, 0, 0, 0⟩ : Sup)) rfl
        have K2 := K1.set 8 (.int .i64 y.1) (s' := (⟨a, b, c, A0, ⟨zeroA.on, x.1, y.1, zeroA.z⟩, 0, 0, 0, 0, 0, 0, 0⟩ : Sup)) rfl
        have K3 := K2.set 9 (.int .i64 z.1) (s' := (⟨a, b, c, A0, ⟨zeroA.on, x.1, y.1, z.1⟩, 0, 0, 0, 0, 0, 0, 0⟩ : Sup)) rfl
        have K4 := K3.set 10 (.bool (((o.1 : Nat) : Int) == 1)) (s' := (⟨a, b, c, A0, ⟨(decide (((o.1 : Nat) : Int) = 1)), x.1, y.1, z.1⟩, 0, 0, 0, 0, 0, 0, 0⟩ : Sup)) rfl
        have HN1 := next_one t0
        have HRA : readA t0 = (⟨decide (((o.1 : Nat) : Int) = 1), x.1, y.1, z.1⟩, z.2) := by
          unfold readA
          simp only [HN1.1, HN1.2, HEo.out, HEx.out, HEy.out, HEz.out]
        go_roundw
        case rel => exact ⟨2, by omega, rfl, ⟨by show GR w0 _ g G (readA (readA t).2).2 ⟨a, b, c, (readA t).1, (readA (readA t).2).1, 0, 0, 0, 0, 0, 0, 0⟩; rw [HA0.out, HT0.out, HRA]; exact K4⟩⟩
        case measure => simp [intOf]
      ·
        rw [show ((2 : Nat) : Int) = 2 from rfl]
        have hp0 : GR w0 wr g G (readA (readA t).2).2 ⟨a, b, c, (readA t).1, (readA (readA t).2).1, 0, 0, 0, 0, 0, 0, 0⟩ := hp
        obtain ⟨A5, hA5⟩ : ∃ A, readA t = A := ⟨_, rfl⟩
        obtain ⟨B5, hB5⟩ : ∃ B, readA A5.2 = B := ⟨_, rfl⟩
        rw [hA5, hB5] at hp0
        have HA5 := Lib.hid hA5
        have HB5 := Lib.hid hB5
        obtain ⟨t5, ht5⟩ : ∃ s, B5.2 = s := ⟨_, rfl⟩
        rw [ht5] at hp0
        have HT5 := Lib.hid ht5
        have HG6 := Lib.hid hp0
        clear hp hp0 hA5 hB5 ht5
        go_wp2_with fail
        refine (number_calls' w0 g t5 _ HG6.out.rx).mono ?_; rintro e wd1 ⟨rfl, hnd1, hgd1⟩
        obtain ⟨d1, hd1⟩ : ∃ q, rNext t5 = q := ⟨_, rfl⟩
        rw [hd1] at hnd1 ⊢
        have HEd1 := Lib.hid hd1
        have HRd1 := Lib.hid (HG6.out.read hnd1 hgd1)
        clear hd1 hnd1 hgd1
        obtain ⟨c0, c1, c2, c3, c4, c5, c6, c7, c8, c9, c10, c11, c12, c13, c14, c15, c16, c17⟩ := HRd1.out.sup.cells
        have fz := blk_frozen HRd1.out.sup 11
        go_upto_region 18 with fail
        have HS4 := Lib.hid (HRd1.out.set 11 (.int .i64 d1.1) (s' := (⟨a, b, c, A5.1, B5.1, d1.1, 0, 0, 0, 0, 0, 0⟩ : Sup)) rfl)
        obtain ⟨V4, hV4⟩ : ∃ W, wd1.setCell ⟨G, 11, none⟩ (.int .i64 d1.1) = W := ⟨_, rfl⟩
        rw [hV4] at HS4
        rw [hV4]
        clear hV4 fz c0 c1 c2 c3 c4 c5 c6 c7 c8 c9 c10 c11 c12 c13 c14 c15 c16 c17
        go_wp2_with fail
        refine (number_calls' w0 g d1.2 _ HS4.out.rx).mono ?_; rintro e wd2 ⟨rfl, hnd2, hgd2⟩
        obtain ⟨d2, hd2⟩ : ∃ q, rNext d1.2 = q := ⟨_, rfl⟩
        rw [hd2] at hnd2 ⊢
        have HEd2 := Lib.hid hd2
        have HRd2 := Lib.hid (HS4.out.read hnd2 hgd2)
        clear hd2 hnd2 hgd2
        obtain ⟨c0, c1, c2, c3, c4, c5, c6, c7, c8, c9, c10, c11, c12, c13, c14, c15, c16, c17⟩ := HRd2.out.sup.cells
        have fz := blk_frozen HRd2.out.sup 12
        go_upto_region 19 with fail
        have HS5 := Lib.hid (HRd2.out.set 12 (.int .i64 d2.1) (s' := (⟨a, b, c, A5.1, B5.1, d1.1, d2.1, 0, 0, 0, 0, 0⟩ : Sup)) rfl)
        obtain ⟨V5, hV5⟩ : ∃ W, wd2.setCell ⟨G, 12, none⟩ (.int .i64 d2.1) = W := ⟨_, rfl⟩
        rw [hV5] at HS5
        rw [hV5]
        clear hV5 fz c0 c1 c2 c3 c4 c5 c6 c7 c8 c9 c10 c11 c12 c13 c14 c15 c16 c17
        go_wp2_with fail
        refine (number_calls' w0 g d2.2 _ HS5.out.rx).mono ?_; rintro e wd3 ⟨rfl, hnd3, hgd3⟩
        obtain ⟨d3, hd3⟩ : ∃ q, rNext d2.2 = q := ⟨_, rfl⟩
        rw [hd3] at hnd3 ⊢
        have HEd3 := Lib.hid hd3
        have HRd3 := Lib.hid (HS5.out.read hnd3 hgd3)
        clear hd3 hnd3 hgd3
        obtain ⟨c0, c1, c2, c3, c4, c5, c6, c7, c8, c9, c10, c11, c12, c13, c14, c15, c16, c17⟩ := HRd3.out.sup.cells
        have fz := blk_frozen HRd3.out.sup 13
        go_upto_region 20 with fail
        have HS6 := Lib.hid (HRd3.out.set 13 (.int .i64 d3.1) (s' := (⟨a, b, c, A5.1, B5.1, d1.1, d2.1, d3.1, 0, 0, 0, 0⟩ : Sup)) rfl)
        obtain ⟨V6, hV6⟩ : ∃ W, wd3.setCell ⟨G, 13, none⟩ (.int .i64 d3.1) = W := ⟨_, rfl⟩
        rw [hV6] at HS6
        rw [hV6]
        clear hV6 fz c0 c1 c2 c3 c4 c5 c6 c7 c8 c9 c10 c11 c12 c13 c14 c15 c16 c17
        go_wp2_with fail
        refine (number_calls' w0 g d3.2 _ HS6.out.rx).mono ?_; rintro e wd4 ⟨rfl, hnd4, hgd4⟩
        obtain ⟨d4, hd4⟩ : ∃ q, rNext d3.2 = q := ⟨_, rfl⟩
        rw [hd4] at hnd4 ⊢
        have HEd4 := Lib.hid hd4
        have HRd4 := Lib.hid (HS6.out.read hnd4 hgd4)
        clear hd4 hnd4 hgd4
        obtain ⟨c0, c1, c2, c3, c4, c5, c6, c7, c8, c9, c10, c11, c12, c13, c14, c15, c16, c17⟩ := HRd4.out.sup.cells
        have fz := blk_frozen HRd4.out.sup 14
        go_upto_region 21 with fail
        have HS7 := Lib.hid (HRd4.out.set 14 (.int .i64 d4.1) (s' := (⟨a, b, c, A5.1, B5.1, d1.1, d2.1, d3.1, d4.1, 0, 0, 0⟩ : Sup)) rfl)
        obtain ⟨V7, hV7⟩ : ∃ W, wd4.setCell ⟨G, 14, none⟩ (.int .i64 d4.1) = W := ⟨_, rfl⟩
        rw [hV7] at HS7
        rw [hV7]
        clear hV7 fz c0 c1 c2 c3 c4 c5 c6 c7 c8 c9 c10 c11 c12 c13 c14 c15 c16 c17
        go_wp2_with fail
        refine (number_calls' w0 g d4.2 _ HS7.out.rx).mono ?_; rintro e we1 ⟨rfl, hne1, hge1⟩
        obtain ⟨e1, he1⟩ : ∃ q, rNext d4.2 = q := ⟨_, rfl⟩
        rw [he1] at hne1 ⊢
        have HEe1 := Lib.hid he1
        have HRe1 := Lib.hid (HS7.out.read hne1 hge1)
        clear he1 hne1 hge1
        go_wp2_with fail
        refine (number_calls' w0 g e1.2 _ HRe1.out.rx).mono ?_; rintro e we2 ⟨rfl, hne2, hge2⟩
        obtain ⟨e2, he2⟩ : ∃ q, rNext e1.2 = q := ⟨_, rfl⟩
        rw [he2] at hne2 ⊢
        have HEe2 := Lib.hid he2
        have HRe2 := Lib.hid (HRe1.out.read hne2 hge2)
        clear he2 hne2 hge2
        obtain ⟨c0, c1, c2, c3, c4, c5, c6, c7, c8, c9, c10, c11, c12, c13, c14, c15, c16, c17⟩ := HRe2.out.sup.cells
        have fz := blk_frozen HRe2.out.sup 15
        go_upto_region 24 with fail
        have HS8 := Lib.hid (HRe2.out.set 15 (.int .i64 e1.1) (s' := (⟨a, b, c, A5.1, B5.1, d1.1, d2.1, d3.1, d4.1, e1.1, 0, 0⟩ : Sup)) rfl)
        obtain ⟨V8, hV8⟩ : ∃ W, we2.setCell ⟨G, 15, none⟩ (.int .i64 e1.1) = W := ⟨_, rfl⟩
        rw [hV8] at HS8
        rw [hV8]
        clear hV8 fz c0 c1 c2 c3 c4 c5 c6 c7 c8 c9 c10 c11 c12 c13 c14 c15 c16 c17
        obtain ⟨c0, c1, c2, c3, c4, c5, c6, c7, c8, c9, c10, c11, c12, c13, c14, c15, c16, c17⟩ := HS8.out.sup.cells
        have fz := blk_frozen HS8.out.sup 16
        go_upto_region 25 with fail
        have HS9 := Lib.hid (HS8.out.set 16 (.int .i64 e2.1) (s' := (⟨a, b, c, A5.1, B5.1, d1.1, d2.1, d3.1, d4.1, e1.1, e2.1, 0⟩ : Sup)) rfl)
        obtain ⟨V9, hV9⟩ : ∃ W, V8.setCell ⟨G, 16, none⟩ (.int .i64 e2.1) = W := ⟨_, rfl⟩
        rw [hV9] at HS9
        rw [hV9]
        clear hV9 fz c0 c1 c2 c3 c4 c5 c6 c7 c8 c9 c10 c11 c12 c13 c14 c15 c16 c17
        go_wp2_with fail
        refine (number_calls' w0 g e2.2 _ HS9.out.rx).mono ?_; rintro e we3 ⟨rfl, hne3, hge3⟩
        obtain ⟨e3, he3⟩ : ∃ q, rNext e2.2 = q := ⟨_, rfl⟩
        rw [he3] at hne3 ⊢
        have HEe3 := Lib.hid he3
        have HRe3 := Lib.hid (HS9.out.read hne3 hge3)
        clear he3 hne3 hge3
        obtain ⟨c0, c1, c2, c3, c4, c5, c6, c7, c8, c9, c10, c11, c12, c13, c14, c15, c16, c17⟩ := HRe3.out.sup.cells
        have fz := blk_frozen HRe3.out.sup 17
        go_upto_region 26 with fail
        have HS10 := Lib.hid (HRe3.out.set 17 (.int .i64 e3.1) (s' := (⟨a, b, c, A5.1, B5.1, d1.1, d2.1, d3.1, d4.1, e1.1, e2.1, e3.1⟩ : Sup)) rfl)
        obtain ⟨V10, hV10⟩ : ∃ W, we3.setCell ⟨G, 17, none⟩ (.int .i64 e3.1) = W := ⟨_, rfl⟩
        rw [hV10] at HS10
        rw [hV10]
        clear hV10 fz c0 c1 c2 c3 c4 c5 c6 c7 c8 c9 c10 c11 c12 c13 c14 c15 c16 c17
        have HRS : Hid (readS X = (⟨a, b, c, A5.1, B5.1, d1.1, d2.1, d3.1, d4.1, e1.1, e2.1, e3.1⟩ : Sup)) := Lib.hid (by
          unfold readS
          simp only [HEq1.out, HEq2.out, HEq3.out, Ht.out, HA5.out, HB5.out, HT5.out, HEd1.out, HEd2.out, HEd3.out, HEd4.out, HEe1.out, HEe2.out, HEe3.out, Ha.out, Hb.out, Hc.out])
        obtain ⟨s, hs⟩ : ∃ s, (⟨a, b, c, A5.1, B5.1, d1.1, d2.1, d3.1, d4.1, e1.1, e2.1, e3.1⟩ : Sup) = s := ⟨_, rfl⟩
        have HSD : Hid (s.seed < 18446744073709551616) := Lib.hid (by rw [← hs]; exact HLT)
        rw [hs] at HS10 HRS
        clear hs
        have HBW : Hid (Below w.heap.size w V10) := Lib.hid (below_step HB3.out HS10.out.rx.below)
        have HAR := Lib.hid (HA2.out.below HS10.out.rx.below HA2.out.lt)
        have HPut := Lib.hid (rputSuper_calls s V10 HSD.out)
        go_wp2_with (refine wpList_load_mid rfl 33 (.tmp 5) rfl G 0 rfl (supC s) _ (sup_range HS10.out.sup) Tryd.underlying33 rfl sup_info ?_)
        refine HPut.out.mono ?_; rintro e w12 ⟨he, hb12⟩
        have HB12 := Lib.hid (below_step HBW.out hb12)
        have HAS := Lib.hid (HS10.out.sup.below hb12 HS10.out.sup.lt)
        have HA12 := Lib.hid (HAR.out.below hb12 HAR.out.lt)
        clear hb12
        cases hq : superB s with
        | false =>
          rw [hq, if_neg (by decide)] at he
          subst he
          have HF := Lib.hid (get_none HX.out HRS.out (.inl hq))
          clear hq HPut
          go_wp2_with (refine wpList_store_mid rfl 33 (.tmp 2) (.tmp 104) rfl R 0 (supC zeroS).toArray rfl rfl HA12.out.there sup_info (sup_one _) ?_)
          refine bodyPost_ret (results_cell2 rfl _ _ (a := ⟨R, 0, none⟩) rfl (load_sup (HA12.out.all zeroS))) rfl ?_
          exact ⟨.inr ⟨HF.out, rfl⟩, belowg HB12.out (gsets (supC zeroS) 0 _ (World.grownBy.refl _ _)) HB12.out.size (by rw [HRb.out]; exact Nat.le_refl _)⟩
        | true =>
          rw [hq, if_pos rfl] at he
          subst he
          have HK := Lib.hid ((superB_iff s HSD.out).1 hq)
          clear hq HPut
          by_cases heq : strOfNums (putS s) = sector
          · have hb1 : ((strOfNums (putS s)).toList == sector.toList) = true := BS.beq_of heq
            have hb2 : ((strOfNums (putS s)).toList != sector.toList) = false := by unfold bne; rw [hb1]; rfl
            have HE : Hid (putS s = bytesOf sector) := Lib.hid (by rw [← heq, BS.bytesOf_str _ (putS_bytes s HK.out)])
            clear heq
            go_wp2_with (first | (refine wpList_load_mid rfl 33 (.tmp 5) rfl G 0 rfl (supC s) _ (sup_range HAS.out) Tryd.underlying33 rfl sup_info ?_) | (refine wpList_store_mid rfl 33 (.tmp 2) (.tmp 105) rfl R 0 (supC s).toArray rfl rfl HA12.out.there sup_info (sup_one _) ?_))
            refine bodyPost_ret (results_cell2 rfl _ _ (a := ⟨R, 0, none⟩) rfl (load_sup (HA12.out.all s))) rfl ?_
            exact ⟨.inl ⟨s, HK.out, HE.out, rfl⟩, belowg HB12.out (gsets (supC s) 0 _ (World.grownBy.refl _ _)) HB12.out.size (by rw [HRb.out]; exact Nat.le_refl _)⟩
          · have hb1 : ((strOfNums (putS s)).toList == sector.toList) = false := BS.beq_not heq
            have hb2 : ((strOfNums (putS s)).toList != sector.toList) = true := by unfold bne; rw [hb1]; rfl
            have HF := Lib.hid (get_none HX.out HRS.out (.inr (fun e => heq (by rw [e, BS.str_bytesOf]))))
            clear heq
            go_wp2_with (refine wpList_store_mid rfl 33 (.tmp 2) (.tmp 104) rfl R 0 (supC zeroS).toArray rfl rfl HA12.out.there sup_info (sup_one _) ?_)
            refine bodyPost_ret (results_cell2 rfl _ _ (a := ⟨R, 0, none⟩) rfl (load_sup (HA12.out.all zeroS))) rfl ?_
            exact ⟨.inr ⟨HF.out, rfl⟩, belowg HB12.out (gsets (supC zeroS) 0 _ (World.grownBy.refl _ _)) HB12.out.size (by rw [HRb.out]; exact Nat.le_refl _)⟩
  · have hn1 : ((sector.size : Int) != 512) = true := by simp; omega
    have HF := Lib.hid (pre_not (sector := sector) (fun h _ => hl (by rw [← BS.size_bytesOf]; exact h)))
    go_wp2_with (refine wpList_store_mid rfl 33 (.tmp 2) (.tmp 19) rfl R 0 (supC zeroS).toArray rfl rfl HA.out.there sup_info (sup_one _) ?_)
    refine bodyPost_ret (results_cell2 rfl _ _ (a := ⟨R, 0, none⟩) rfl (load_sup (HA.out.all zeroS))) rfl ?_
    exact ⟨.inr ⟨HF.out, rfl⟩, belowg HBa.out (gsets (supC zeroS) 0 _ (World.grownBy.refl _ _)) HBa.out.size (by rw [HRb.out]; exact Nat.le_refl _)⟩
end Go.Proofs.YtijjecnmdhefbaaDoor.SP

namespace Go.Proofs.YtijjecnmdhefbaaDoor.SP
open Go.RowKit Go.Proofs.YtijjecnmdhefbaaDoorW.PrintWords Go.Proofs.YtijjecnmdhefbaaDoorW.PrintLast Go.Proofs.YtijjecnmdhefbaaDoorW.PrintMore Go.Proofs.YtijjecnmdhefbaaDoor.CD Go.Proofs.YtijjecnmdhefbaaDoor.BR Go.Proofs.YtijjecnmdhefbaaDoor.BP Go.Proofs.YtijjecnmdhefbaaDoor.RG
set_option linter.unusedVariables false
set_option linter.unusedSimpArgs false
set_option maxRecDepth 100000
theorem puts_fix (s : Sup) : ∃ (t : ByteArray) (z : Int), ∀ w e w', Puts s w e w' → e = .returned (.tuple #[.string t, .int .i64 z]) ∧ Below w.heap.size w w' := by
  by_cases h : superB s = true
  · refine ⟨strOfNums (putS s), 0, fun w e w' hp => ⟨?_, hp.2⟩⟩
    have := hp.1
    rw [if_pos h] at this
    exact this
  · refine ⟨ByteArray.empty, 2, fun w e w' hp => ⟨?_, hp.2⟩⟩
    have := hp.1
    rw [if_neg h] at this
    exact this
theorem gets_fix (sector : ByteArray) : ∃ (s : Sup) (z : Int), ∀ w e w', Gets sector w e w' → e = .returned (.tuple #[.agg (supC s).toArray, .int .i64 z]) ∧ Below w.heap.size w w' := by
  by_cases h : ∃ s, Ok lims s ∧ putS s = bytesOf sector
  · obtain ⟨s, hk, he⟩ := h
    refine ⟨s, 0, fun w e w' hg => ⟨?_, hg.2⟩⟩
    rcases hg.1 with ⟨s', hk', he', rfl⟩ | ⟨hn, _⟩
    · rw [getS_one lims_ok ⟨hk', he'⟩ ⟨hk, he⟩]
    · exact absurd he (hn s hk)
  · refine ⟨zeroS, 21, fun w e w' hg => ⟨?_, hg.2⟩⟩
    rcases hg.1 with ⟨s', hk', he', rfl⟩ | ⟨_, rfl⟩
    · exact absurd ⟨s', hk', he'⟩ h
    · rfl
theorem eql_run (s : Sup) (W : World) : (binOp .eql 33 (.agg (supC s).toArray) (.agg (supC s).toArray)).run Tryd.prog W = .ok (.bool true) W := by
  have h := eq_ancs s W
  unfold supC
  go_simp
section
variable {ops : Array Oper} {rest : List Oper} {Q : Exit → Act → World → Prop} {a : Act} {W : World} {ty : TypeId} {pos : String} {af : Array Edge}
theorem eql_supG (x y : Nat) {d : Nat} (s : Sup) {k : Nat} {b : Bool} (hw : Region.wanted { dst := some d, op := .binOp .eql 33 (.tmp x) (.tmp y) 33, type := ty, pos := pos, after := af, guard := some (k, b) } (yielded ops a.tmps) = true) (hx : a.eval (.tmp x) = .agg (supC s).toArray) (hy : a.eval (.tmp y) = .agg (supC s).toArray)
    (h : wpList Tryd.prog ops Q rest (a.put (some d) (.bool true)) W) : wpList Tryd.prog ops Q ({ dst := some d, op := .binOp .eql 33 (.tmp x) (.tmp y) 33, type := ty, pos := pos, after := af, guard := some (k, b) } :: rest) a W := by
  have hr := eql_run s W
  have hg : (eqGuard .eql 33 (.tmp x) (.tmp y) (.agg (supC s).toArray) (.agg (supC s).toArray)).run Tryd.prog W = .ok () W := by
    have hk : Tryd.prog.eqGuardType Tryd.prog.depth 33 = false := by kernel_rfl
    unfold eqGuard
    simp [hk]
  simp only [wpList]
  rw [if_pos hw]
  refine .inl ?_
  unfold Oper.wp execOp
  simp only [hx, hy, Sem.run_bind, Sem.run_pure, hg, hr, Result.andThen_ok]
  exact h
end
abbrev ZA : Array Value := #[.int .i64 0, .int .i64 0, .int .u64 0, .int .i64 0, .int .i64 0, .int .i64 0, .bool false, .int .i64 0, .int .i64 0, .int .i64 0, .bool false, .int .i64 0, .int .i64 0, .int .i64 0, .int .i64 0, .int .i64 0, .int .i64 0, .int .i64 0]
set_option maxHeartbeats 8000000 in
theorem supers_calls (s : Sup) (hs : s.seed < 18446744073709551616) (t : ByteArray) (hlen : t.size ≤ 140737488351232) (w : World) (ht : CK.Tab w) (h0 : 0 < w.heap.size) :
    Calls Tryd.prog 3 #[.agg (supC s).toArray, .string t] w fun e w' => e = .returned (.bool true) ∧ Below w.heap.size w w' := by
  have HT := Lib.hid ht
  have H0 := Lib.hid h0
  have HS := Lib.hid hs
  have HW := Lib.hid (fun W => works24 W)
  obtain ⟨q, hqq⟩ : ∃ q : Nat, q = min t.size 1000 := ⟨_, rfl⟩
  have kmin : (if (1000 : Int) < (t.size : Int) then (1000 : Int) else (t.size : Int)) = (q : Int) := by split <;> omega
  have kmin2 : min (t.size : Int) 1000 = (q : Int) := by omega
  have hq1 : (q : Int) ≤ (t.size : Int) := by omega
  have hq0 : (0 : Int) ≤ (q : Int) := by omega
  clear hqq ht h0 hs
  obtain ⟨pt, pz, hP⟩ := puts_fix s
  have HP := Lib.hid hP
  obtain ⟨sec, hsec⟩ : ∃ sec, sec = t.extract 0 q := ⟨_, rfl⟩
  have HSEC := Lib.hid hsec
  obtain ⟨gs, gz, hG⟩ := gets_fix sec
  have HG := Lib.hid hG
  clear hP hG hsec
  have hbb := BS.beq_same pt
  go_enter Tryd.func3, Tryd.ntmps3
  go_upto_region 1 with fail
  have HA := Lib.hid (SupAt.new w s)
  have HBa := Lib.hid (below_alloc (Below.refl w.heap.size w) (.cells (supC s).toArray 33))
  obtain ⟨W1, hW1⟩ : ∃ W, w.alloc (.cells (supC s).toArray 33) = W := ⟨_, rfl⟩
  obtain ⟨R, hR⟩ : ∃ R, w.heap.size = R := ⟨_, rfl⟩
  rw [hW1] at HA HBa
  rw [hR] at HA
  rw [hW1, hR]
  clear hW1
  have HPut := Lib.hid (putSuper_calls s W1 HS.out (HT.out.below HBa.out H0.out) (by have := HBa.out.size; have := H0.out; omega))
  have HRb := Lib.hid hR
  clear hR
  go_upto_region 2 with fail
  have hs2 := HSEC.out.symm
  try rw [hs2]
  clear kmin kmin2 hq1 hq0
  go_wp2_with (refine wpList_load_mid rfl 33 (.tmp 2) rfl R 0 rfl (supC s) _ (sup_range HA.out) Tryd.underlying33 rfl sup_info ?_)
  refine HPut.out.mono ?_; rintro e w2 he
  obtain ⟨rfl, hb2⟩ := HP.out _ _ _ he
  have HB2 := Lib.hid (below_step HBa.out hb2)
  have HA2 := Lib.hid (HA.out.below hb2 HA.out.lt)
  have HPut2 := Lib.hid (rputSuper_calls s w2 HS.out)
  clear hb2 he HPut
  go_wp2_with (refine wpList_load_mid rfl 33 (.tmp 2) rfl R 0 rfl (supC s) _ (sup_range HA2.out) Tryd.underlying33 rfl sup_info ?_)
  refine HPut2.out.mono ?_; rintro e w3 he
  obtain ⟨rfl, hb3⟩ := HP.out _ _ _ he
  have HB3 := Lib.hid (below_step HB2.out hb3)
  have HGet := Lib.hid (getSuper_calls sec w3 (HT.out.below HB3.out H0.out) (by have := HB3.out.size; have := H0.out; omega))
  clear hb3 he HPut2 HA HA2
  go_wp2_with fail
  refine HGet.out.mono ?_; rintro e w4 he
  obtain ⟨rfl, hb4⟩ := HG.out _ _ _ he
  have HB4 := Lib.hid (below_step HB3.out hb4)
  clear hb4 he HGet
  go_upto_region 5 with (refine store_sup 9 31 gs (z := zeroS) (G := w4.heap.size) rfl rfl ?_ ?_; · exact SupAt.new w4 zeroS)
  have HY := Lib.hid ((SupAt.new w4 zeroS).all gs)
  have HB5 := Lib.hid (belowg (below_alloc (Below.refl w4.heap.size w4) (.cells (supC zeroS).toArray 33)) (gsets (supC gs) 0 _ (World.grownBy.refl _ (some w4.heap.size))) (by simp) (Nat.le_refl _))
  obtain ⟨W5, hW5⟩ : ∃ W, (w4.alloc (.cells (supC zeroS).toArray 33)).setCells w4.heap.size 0 (supC gs) = W := ⟨_, rfl⟩
  rw [hW5] at HY HB5
  rw [show (w4.alloc (.cells ZA 33)).setCells w4.heap.size 0 (supC gs) = W5 from hW5]
  have HB6 := Lib.hid (below_step HB4.out HB5.out)
  obtain ⟨Y, hY⟩ : ∃ Y, w4.heap.size = Y := ⟨_, rfl⟩
  rw [hY] at HY
  rw [hY]
  have HGet := Lib.hid (rgetSuper_calls sec W5)
  clear hY hW5 HB5 HB4
  go_wp2_with fail
  refine HGet.out.mono ?_; rintro e w6 he
  obtain ⟨rfl, hb6⟩ := HG.out _ _ _ he
  have HB7 := Lib.hid (below_step HB6.out hb6)
  have HY6 := Lib.hid (HY.out.below hb6 HY.out.lt)
  clear hb6 he HGet
  go_upto_region 6 with (refine store_sup 11 36 gs (z := zeroS) (G := w6.heap.size) rfl rfl ?_ ?_; · exact SupAt.new w6 zeroS)
  have HZ := Lib.hid ((SupAt.new w6 zeroS).all gs)
  have HB8 := Lib.hid (belowg (below_alloc (Below.refl w6.heap.size w6) (.cells (supC zeroS).toArray 33)) (gsets (supC gs) 0 _ (World.grownBy.refl _ (some w6.heap.size))) (by simp) (Nat.le_refl _))
  obtain ⟨W8, hW8⟩ : ∃ W, (w6.alloc (.cells (supC zeroS).toArray 33)).setCells w6.heap.size 0 (supC gs) = W := ⟨_, rfl⟩
  rw [hW8] at HZ HB8
  rw [show (w6.alloc (.cells ZA 33)).setCells w6.heap.size 0 (supC gs) = W8 from hW8]
  have HB9 := Lib.hid (below_step HB7.out HB8.out)
  have HY8 := Lib.hid (HY6.out.below HB8.out HY6.out.lt)
  obtain ⟨Z, hZ⟩ : ∃ Z, w6.heap.size = Z := ⟨_, rfl⟩
  rw [hZ] at HZ
  rw [hZ]
  clear hZ hW8 HB8 HB7 HY6 HY HB6
  go_wp2_with (first | (refine load_supG 9 gs (G := Y) (by rfl) rfl HY8.out ?_) | (refine load_supG 11 gs (G := Z) (by rfl) rfl HZ.out ?_) | (refine eql_supG 47 48 gs (by rfl) rfl rfl ?_))
  refine (HW.out _).mono ?_; rintro e w11 ⟨rfl, hb11⟩
  have HB11 := Lib.hid (below_step HB9.out hb11)
  clear hb11
  go_wp2
  go_ret
  exact ⟨rfl, HB11.out⟩
theorem supersWalk (s : Sup) (hs : s.seed < 18446744073709551616) (t : ByteArray) (hlen : t.size ≤ 140737488351232) (w : World) (ht : CK.Tab w) (h0 : 0 < w.heap.size) :
    Calls Tryd.prog 3 #[.agg (supC s).toArray, .string t] w fun e w' => e = .returned (.bool true) ∧ Below w.heap.size w w' := supers_calls s hs t hlen w ht h0
end Go.Proofs.YtijjecnmdhefbaaDoor.SP
