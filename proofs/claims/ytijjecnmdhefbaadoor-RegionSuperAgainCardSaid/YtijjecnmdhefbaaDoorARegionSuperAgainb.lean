/- The own texts that the statement RegionSuperAgain leans on: SupGet, SupOps, RWorks, SupAgain. -/
import Derived.Test.YtijjecnmdhefbaaDoorARegionSuperAgain
import Derived.Test.YtijjecnmdhefbaaDoorPRegionSuperAgainx1
import Derived.Lib.ConvBytes
import Derived.ChangeKeysEq
import Derived.Outline
import Derived.Deep.DeepCutAuto
namespace Go.Proofs.YtijjecnmdhefbaaDoor.SP
open Go.RowKit Go.Proofs.YtijjecnmdhefbaaDoorW.PrintWords Go.Proofs.YtijjecnmdhefbaaDoorW.PrintLast Go.Proofs.YtijjecnmdhefbaaDoorW.PrintMore Go.Proofs.YtijjecnmdhefbaaDoor.CD Go.Proofs.YtijjecnmdhefbaaDoor.BR Go.Proofs.YtijjecnmdhefbaaDoor.BP Go.Proofs.YtijjecnmdhefbaaDoor.RG
set_option linter.unusedVariables false
set_option linter.unusedSimpArgs false
set_option maxRecDepth 100000
def zeroA : Anc := ⟨false, 0, 0, 0⟩
def zeroS : Sup := ⟨0, 0, 0, zeroA, zeroA, 0, 0, 0, 0, 0, 0, 0⟩
def Gets (sector : ByteArray) (w : World) (e : Ending) (w' : World) : Prop :=
  ((∃ s, Ok lims s ∧ putS s = bytesOf sector ∧ e = .returned (.tuple #[.agg (supC s).toArray, .int .i64 0])) ∨ (∀ s, Ok lims s → putS s ≠ bytesOf sector) ∧ e = .returned (.tuple #[.agg (supC zeroS).toArray, .int .i64 21])) ∧ Below w.heap.size w w'
theorem load_sup {W : World} {g : Nat} {s : Sup} (h : SupAt W g s) : (loadVar 33 ⟨g, 0, none⟩).run Tryd.prog W = .ok (.agg (supC s).toArray) W :=
  run_loadVar_mid W g 0 33 (supC s) _ (sup_range h) Tryd.underlying33 rfl sup_info
def putAt (cs : Array Value) : Nat → List Value → Array Value
  | _, [] => cs
  | o, v :: r => putAt (cs.setIfInBounds o v) (o + 1) r
theorem blk_sets {t : TypeId} {b : Nat} : ∀ (vs : List Value) (o : Nat) (w : World) (cs : Array Value), w.heap[b]? = some (.cells cs t (0, 0)) → (w.setCells b o vs).heap[b]? = some (.cells (putAt cs o vs) t (0, 0))
  | [], _, _, _, h => h
  | v :: r, o, w, cs, h => blk_sets r (o + 1) _ _ (blk_set h o v)
theorem gsets {a : World} {b : Nat} : ∀ (vs : List Value) (o : Nat) (w : World), a.grownBy w (some b) → a.grownBy (w.setCells b o vs) (some b)
  | [], _, _, h => h
  | v :: r, o, w, h => gsets r (o + 1) _ (gset h o v)
theorem blk_there {w : World} {b : Nat} {cs : Array Value} {t : TypeId} (h : w.heap[b]? = some (.cells cs t (0, 0))) (o n : Nat) (hn : o + n ≤ cs.size) : w.there b o n := fun j hj => by
  rw [blk_cell h, blk_frozen h]
  refine ⟨?_, rfl⟩
  rw [Array.getElem?_eq_getElem (by omega)]
  rfl
theorem putAt_all : ∀ (vs pre old : List Value), old.length = vs.length → putAt (pre ++ old).toArray pre.length vs = (pre ++ vs).toArray
  | [], pre, old, h => by
    have : old = [] := List.eq_nil_of_length_eq_zero h
    subst this
    rfl
  | v :: r, pre, [], h => by simp at h
  | v :: r, pre, o :: old, h => by
    have e : (pre ++ o :: old).toArray.setIfInBounds pre.length v = ((pre ++ [v]) ++ old).toArray := by
      rw [List.setIfInBounds_toArray, List.set_append_right _ _ (Nat.le_refl _), Nat.sub_self]
      simp
    have k := putAt_all r (pre ++ [v]) old (by simpa using h)
    rw [putAt, e]
    rw [List.length_append, List.length_singleton] at k
    rw [k, List.append_assoc]
    rfl
theorem sup_put (s z : Sup) : putAt (supC z).toArray 0 (supC s) = (supC s).toArray := putAt_all (supC s) [] (supC z) rfl
theorem SupAt.all {W : World} {g : Nat} {z : Sup} (h : SupAt W g z) (s : Sup) : SupAt (W.setCells g 0 (supC s)) g s := by
  have := blk_sets (supC s) 0 W _ h
  rw [sup_put] at this
  exact this
theorem sup_one (s : Sup) : (supC s).toArray.all (·.oneCell') = true := by simp [supC, Value.oneCell']
theorem SupAt.there {W : World} {g : Nat} {s : Sup} (h : SupAt W g s) : W.there g 0 18 := blk_there h 0 18 (Nat.le_refl _)
theorem nextSuper_calls (w0 : World) (C g : Nat) (s : St) (w : World) (h : Nx w0 w C g s) :
    Calls Tryd.prog 30 #[.pointer (some ⟨C, 0, none⟩)] w fun e w' => e = .returned (.int .i64 (rNext s).1) ∧ Nx w0 w' C g (rNext s).2 ∧ w.grownBy w' (some g) := by
  have H := Lib.hid h
  have h0 := blk_cell h.cell 0
  simp only [List.getElem?_toArray, List.getElem?_cons_succ, List.getElem?_cons_zero] at h0
  clear h
  go_enter Tryd.func30, Tryd.ntmps30
  go_wp2_with fail
  refine (small_calls g s _ H.out.rdr).mono ?_; rintro e w' ⟨rfl, hr, hg⟩; have HR := Lib.hid hr; have HG := Lib.hid hg; clear hr hg
  go_wp2
  go_ret
  exact ⟨rfl, H.out.step HR.out HG.out, HG.out⟩
structure GS (w0 W : World) (C g G : Nat) (st : St) (s : Sup) : Prop where
  nx : Nx w0 W C g st
  sup : SupAt W G s
  cG : C < G
theorem GS.under {w0 W W' : World} {C g G : Nat} {st : St} {s : Sup} (h : GS w0 W C g G st s) (hb : Below W.heap.size W W') : GS w0 W' C g G st s := ⟨h.nx.under hb, h.sup.below hb h.sup.lt, h.cG⟩
theorem GS.read {w0 W W' : World} {C g G : Nat} {st st' : St} {s : Sup} (h : GS w0 W C g G st s) (hn : Nx w0 W' C g st') (hg : W.grownBy W' (some g)) : GS w0 W' C g G st' s :=
  ⟨hn, blk_grown h.sup hg (fun e => by have := h.cG; have := h.nx.g2; injection e with e; omega), h.cG⟩
theorem GS.set {w0 W : World} {C g G : Nat} {st : St} {s : Sup} (h : GS w0 W C g G st s) (i : Nat) (v : Value) {s' : Sup} (e : (supC s).set i v = supC s') : GS w0 (W.setCell ⟨G, i, none⟩ v) C g G st s' :=
  ⟨h.nx.far (gset (World.grownBy.refl W _) i v) (fun k hk => by injection hk with hk; have := h.cG; omega), blk_put h.sup i v (by rw [List.setIfInBounds_toArray, e]), h.cG⟩
theorem numQ_calls (w0 : World) (C g : Nat) (s : St) (w : World) (h : Nx w0 w C g s) :
    Calls Tryd.prog 32 #[.pointer (some ⟨g, 0, none⟩)] w fun e w' => e = .returned (.int .u64 ((rNum s).1 : Int)) ∧ Nx w0 w' C g (rNum s).2 ∧ w.grownBy w' (some g) :=
  (BQ.num_calls g s.1 s.2 w h.rdr).mono fun e w' hh => ⟨hh.1, h.step hh.2.1 hh.2.2, hh.2.2⟩
theorem rInt_is (s : St) : rInt s = rInt' s := by
  unfold rInt rInt' rNum
  cases h : s.2 <;> simp [zag]
theorem intQ_calls (w0 : World) (C g : Nat) (s : St) (w : World) (h : Nx w0 w C g s) :
    Calls Tryd.prog 33 #[.pointer (some ⟨g, 0, none⟩)] w fun e w' => e = .returned (.int .i64 (rInt' s).1) ∧ Nx w0 w' C g (rInt' s).2 ∧ w.grownBy w' (some g) :=
  by
  have k := BQ.int_calls g s.1 s.2 w h.rdr
  rw [rInt_is] at k
  exact k.mono fun e w' hh => ⟨hh.1, h.step hh.2.1 hh.2.2, hh.2.2⟩
def stI (t : St) (i : Nat) : St := if i = 0 then t else if i = 1 then (readA t).2 else (readA (readA t).2).2
def supI (a : Int) (b : Nat) (c : Int) (t : St) (i : Nat) : Sup := ⟨a, b, c, if i = 0 then zeroA else (readA t).1, if i = 2 then (readA (readA t).2).1 else zeroA, 0, 0, 0, 0, 0, 0, 0⟩
theorem get_none {sector : ByteArray} {s : Sup} {X : List Int} (hx : X = (bytesOf sector).drop 8) (hr : readS X = s) (h : superB s = false ∨ putS s ≠ bytesOf sector) : ∀ s', Ok lims s' → putS s' ≠ bytesOf sector := fun s' hk e => by
  have k := readS_put lims s' hk (by unfold lims; decide)
  rw [e, ← hx, hr] at k
  subst k
  rcases h with h | h
  · rw [(superB_iff s hk.seed).2 hk] at h
    cases h
  · exact h e
theorem pre_not {sector : ByteArray} (h : (bytesOf sector).length = 512 → (bytesOf sector).take 8 = magic → False) : ∀ s, Ok lims s → putS s ≠ bytesOf sector := fun s _ e => by
  refine h (by rw [← e, putS_length]) (by rw [← e]; rfl)
def magicS : ByteArray := ⟨#[66, 69, 68, 82, 79, 67, 75, 49]⟩
theorem prefix_calls (sector : ByteArray) (hs : sector.size = 512) (W : World) : Calls Tryd.prog 28 #[.string sector, .string ⟨#[66, 69, 68, 82, 79, 67, 75, 49]⟩] W fun e w' => e = .returned (.bool (decide ((bytesOf sector).take 8 = magic))) ∧ Below W.heap.size W w' := by
  refine (PRegionSuperAgain.strings_HasPrefix.calls sector magicS (decide ((bytesOf sector).take 8 = magic)) W ?_).mono fun e w' h => ⟨h.1, h.2.below⟩
  unfold PRegionSuperAgain.strings_HasPrefix.f PRegionSuperAgain.stringslite_HasPrefix.f
  have e8 : (magicS.size : Int) = 8 := rfl
  rw [e8, hs, if_pos (by decide), if_pos (by decide), if_pos (by decide)]
  simp only [Option.bind_some]
  have hx : bytesOf (sector.extract 0 (8 : Int).toNat) = (bytesOf sector).take 8 := by
    rw [BS.bytesOf_extract]; rfl
  have hm : bytesOf magicS = magic := by decide
  by_cases h : (bytesOf sector).take 8 = magic
  · rw [decide_eq_true h, BS.beq_of (BS.bytesOf_inj (by rw [hx, hm, h]))]
  · rw [decide_eq_false h, BS.beq_not (fun e => h (by rw [← hx, e, hm]))]
theorem results_cell2 {fn : Func} {t u : Tmp} {ty : TypeId} {a : Addr} {v : Value} (h : fn.results = #[.cell t ty, .tmp u]) (tmps : Array Value) (w : World) (ha : tmps.getD t undef = .pointer (some a)) (hl : (loadVar ty a).run Tryd.prog w = .ok v w) :
    (results fn tmps).run Tryd.prog w = .ok (.tuple #[v, tmps.getD u undef]) w := by
  have ha' : tmps[t]?.getD undef = .pointer (some a) := by simpa using ha
  simp [results, h, ha', hl, asAddr]
theorem newstrQ_calls (t : ByteArray) (W : World) (ht : t.size ≤ 140737488355328) :
    Calls Tryd.prog 29 #[.slice (some ⟨W.heap.size, 0, none⟩) t.size (grownCap W t.size 0 5)] (bw W t) fun e w' => ∃ g, e = .returned (.pointer (some ⟨g, 0, none⟩)) ∧ (bw W t).heap.size ≤ g ∧ BQ.Rdr (fun k => (bw W t).heap.size ≤ k ∧ k < g) w' g (bytesOf t) false ∧ Below (bw W t).heap.size (bw W t) w' := by
  have h := BQ.new_calls (some ⟨W.heap.size, 0, none⟩) (grownCap W t.size 0 5) (bytesOf t) (bw W t) (bw_reads W t (by omega)) (by rw [bytesOf_length]; exact grownCap_ge _ _ _ _) (BS.bytes_bytesOf t) (by rw [bytesOf_length]; exact ht)
  rw [bytesOf_length] at h
  exact h
set_option maxHeartbeats 8000000 in
theorem getSuper_calls (sector : ByteArray) (w : World) (ht : CK.Tab w) (h0 : 0 < w.heap.size) :
    Calls Tryd.prog 8 #[.string sector] w fun e w' => Gets sector w e w' := by
  have HT := Lib.hid ht
  have H0 := Lib.hid h0
  clear ht h0
  go_enter Tryd.func8, Tryd.ntmps8
  go_upto_region 1 with fail
  have HA := Lib.hid (SupAt.new w zeroS)
  have HBa := Lib.hid (below_alloc (Below.refl w.heap.size w) (.cells (supC zeroS).toArray 33))
  obtain ⟨W1, hW1⟩ : ∃ W, w.alloc (.cells (supC zeroS).toArray 33) = W := ⟨_, rfl⟩
  rw [hW1] at HA HBa
  rw [show w.alloc (.cells #[.int .i64 0, .int .i64 0, .int .u64 0, .int .i64 0, .int .i64 0, .int .i64 0, .bool false, .int .i64 0, .int .i64 0, .int .i64 0, .bool false, .int .i64 0, .int .i64 0, .int .i64 0, .int .i64 0, .int .i64 0, .int .i64 0, .int .i64 0] 33) = W1 from hW1]
  clear hW1
  obtain ⟨R, hR⟩ : ∃ R, w.heap.size = R := ⟨_, rfl⟩
  have HRb := Lib.hid hR
  rw [hR] at HA
  rw [hR]
  clear hR
  by_cases hl : sector.size = 512
  · have HL := Lib.hid hl
    have HPre := Lib.hid (fun W => prefix_calls sector hl W)
    have hn1 : ((sector.size : Int) != 512) = false := by rw [hl]; rfl
    go_wp2_with fail
    refine (HPre.out _).mono ?_; rintro e w2 ⟨rfl, hb2⟩
    by_cases hm : (bytesOf sector).take 8 = magic
    · have hdm := decide_eq_true hm
      have hts : (sector.extract 8 512).size = 504 := by
        rw [← BS.size_bytesOf, BS.bytesOf_extract, List.length_drop, List.length_take, BS.size_bytesOf, hl]; rfl
      have HX := Lib.hid (show bytesOf (sector.extract 8 512) = (bytesOf sector).drop 8 by rw [BS.bytesOf_extract, List.take_of_length_le (by rw [BS.size_bytesOf, hl]; exact Nat.le_refl _)])
      have HNew := Lib.hid (newstrQ_calls (sector.extract 8 512) w2 (by rw [hts]; omega))
      have hcv := bytes_run (sector.extract 8 512) w2
      have HA2 := Lib.hid ((HA.out.below hb2 HA.out.lt).below (bw_below w2 (sector.extract 8 512)) (HA.out.below hb2 HA.out.lt).lt)
      have HB3 := Lib.hid (below_step (below_step HBa.out hb2) (bw_below w2 (sector.extract 8 512)))
      have HM := Lib.hid hm
      rw [hts] at HNew hcv
      obtain ⟨w0, hw0⟩ : ∃ w0, bw w2 (sector.extract 8 512) = w0 := ⟨_, rfl⟩
      obtain ⟨c3, hc3⟩ : ∃ c, grownCap w2 504 0 5 = c := ⟨_, rfl⟩
      obtain ⟨X, hX⟩ : ∃ X, bytesOf (sector.extract 8 512) = X := ⟨_, rfl⟩
      rw [hw0, hc3, hX] at HNew
      rw [hw0, hc3] at hcv
      rw [hw0] at HA2 HB3
      rw [hX] at HX
      clear hts hm hb2 hw0 hc3 hX
      go_wp2_with fail
      refine HNew.out.mono ?_; rintro e w4 ⟨g, rfl, hg, hr4, hb4⟩
      have hnx0 : Nx w0 (w4.alloc (.cells #[.pointer (some ⟨g, 0, none⟩)] 71)) w4.heap.size g (X, false) := ⟨hr4.below (below_alloc (Below.refl _ _) _), blk_new _ _, below_alloc hb4 _, hg, hr4.lt⟩
      have HNX := Lib.hid hnx0
      clear hr4 hg hb4 hnx0 hcv
      go_upto_region 5 with fail
      obtain ⟨W5, hW5⟩ : ∃ W, w4.alloc (.cells #[.pointer (some ⟨g, 0, none⟩)] 71) = W := ⟨_, rfl⟩
      obtain ⟨C, hC⟩ : ∃ C, w4.heap.size = C := ⟨_, rfl⟩
      rw [hW5, hC] at HNX
      rw [hW5, hC]
      clear hW5 hC HNew HA HBa
      go_wp2_with fail
      refine (nextSuper_calls w0 C g _ _ HNX.out).mono ?_; rintro e w6 ⟨rfl, hn6, hg6⟩
      obtain ⟨q1, hq1⟩ : ∃ q, rNext (X, false) = q := ⟨_, rfl⟩
      rw [hq1] at hn6 ⊢
      have HQ1 := Lib.hid hq1
      have HNX6 := Lib.hid hn6
      clear hn6 hg6 hq1 hl hn1 HPre
      go_upto_region 6 with fail
      have HS1 : Hid (SupAt (w6.alloc (.cells (supC ⟨q1.1, 0, 0, zeroA, zeroA, 0, 0, 0, 0, 0, 0, 0⟩).toArray 33)) w6.heap.size ⟨q1.1, 0, 0, zeroA, zeroA, 0, 0, 0, 0, 0, 0, 0⟩) := Lib.hid (SupAt.new w6 _)
      have HNX7 := Lib.hid (HNX6.out.under (below_alloc (Below.refl w6.heap.size w6) (.cells (supC ⟨q1.1, 0, 0, zeroA, zeroA, 0, 0, 0, 0, 0, 0, 0⟩).toArray 33)))
      obtain ⟨W7, hW7⟩ : ∃ W, w6.alloc (.cells (supC ⟨q1.1, 0, 0, zeroA, zeroA, 0, 0, 0, 0, 0, 0, 0⟩).toArray 33) = W := ⟨_, rfl⟩
      have hCG := HNX6.out.lt
      rw [hW7] at HS1 HNX7
      rw [show w6.alloc (.cells #[.int .i64 q1.1, .int .i64 0, .int .u64 0, .int .i64 0, .int .i64 0, .int .i64 0, .bool false, .int .i64 0, .int .i64 0, .int .i64 0, .bool false, .int .i64 0, .int .i64 0, .int .i64 0, .int .i64 0, .int .i64 0, .int .i64 0, .int .i64 0] 33) = W7 from hW7]
      obtain ⟨G, hG⟩ : ∃ G, w6.heap.size = G := ⟨_, rfl⟩
      rw [hG] at HS1 hCG
      rw [hG]
      have HG7 : Hid (GS w0 W7 C g G q1.2 ⟨q1.1, 0, 0, zeroA, zeroA, 0, 0, 0, 0, 0, 0, 0⟩) := Lib.hid ⟨HNX7.out, HS1.out, hCG⟩
      clear hW7 hG hCG HS1 HNX7 HNX6 HNX
      have b7 := blk_cell HG7.out.nx.cell 0
      simp only [List.getElem?_toArray, List.getElem?_cons_succ, List.getElem?_cons_zero] at b7
      go_wp2_with fail
      refine (numQ_calls w0 C g q1.2 _ HG7.out.nx).mono ?_; rintro e w8 ⟨rfl, hn8, hg8⟩
      have HLT := Lib.hid (rNum_lt q1.2 HG7.out.nx.rdr.bytes)
      obtain ⟨q2, hq2⟩ : ∃ q, rNum q1.2 = q := ⟨_, rfl⟩
      rw [hq2] at hn8 HLT ⊢
      have HQ2 := Lib.hid hq2
      have HG8 := Lib.hid (HG7.out.read hn8 hg8)
      clear hn8 hg8 hq2 b7
      obtain ⟨c0, c1, c2, c3, c4, c5, c6, c7, c8, c9, c10, c11, c12, c13, c14, c15, c16, c17⟩ := HG8.out.sup.cells
      have f2 := blk_frozen HG8.out.sup 2
      go_upto_region 7 with fail
      have HG9 := Lib.hid (HG8.out.set 2 (.int .u64 (q2.1 : Int)) (s' := ⟨q1.1, q2.1, 0, zeroA, zeroA, 0, 0, 0, 0, 0, 0, 0⟩) rfl)
      obtain ⟨W9, hW9⟩ : ∃ W, w8.setCell ⟨G, 2, none⟩ (.int .u64 (q2.1 : Int)) = W := ⟨_, rfl⟩
      rw [hW9] at HG9
      rw [hW9]
      clear hW9 c0 c1 c2 c3 c4 c5 c6 c7 c8 c9 c10 c11 c12 c13 c14 c15 c16 c17 f2
      go_wp2_with fail
      refine (nextSuper_calls w0 C g q2.2 _ HG9.out.nx).mono ?_; rintro e w10 ⟨rfl, hn10, hg10⟩
      obtain ⟨q3, hq3⟩ : ∃ q, rNext q2.2 = q := ⟨_, rfl⟩
      rw [hq3] at hn10 ⊢
      have HQ3 := Lib.hid hq3
      have HG10 := Lib.hid (HG9.out.read hn10 hg10)
      clear hn10 hg10 hq3
      obtain ⟨c0, c1, c2, c3, c4, c5, c6, c7, c8, c9, c10, c11, c12, c13, c14, c15, c16, c17⟩ := HG10.out.sup.cells
      have f1 := blk_frozen HG10.out.sup 1
      go_upto_region 8 with fail
      have HG11 := Lib.hid (HG10.out.set 1 (.int .i64 q3.1) (s' := ⟨q1.1, q2.1, q3.1, zeroA, zeroA, 0, 0, 0, 0, 0, 0, 0⟩) rfl)
      obtain ⟨W11, hW11⟩ : ∃ W, w10.setCell ⟨G, 1, none⟩ (.int .i64 q3.1) = W := ⟨_, rfl⟩
      rw [hW11] at HG11
      rw [hW11]
      clear hW11 c0 c1 c2 c3 c4 c5 c6 c7 c8 c9 c10 c11 c12 c13 c14 c15 c16 c17 f1
      obtain ⟨a, ha⟩ : ∃ a, q1.1 = a := ⟨_, rfl⟩
      obtain ⟨b, hb⟩ : ∃ b, q2.1 = b := ⟨_, rfl⟩
      obtain ⟨c, hc⟩ : ∃ c, q3.1 = c := ⟨_, rfl⟩
      obtain ⟨t, ht⟩ : ∃ t, q3.2 = t := ⟨_, rfl⟩
      rw [ha, hb, hc, ht] at HG11
      rw [hb] at HLT
      have Ha := Lib.hid ha
      have Hb := Lib.hid hb
      have Hc := Lib.hid hc
      have Ht := Lib.hid ht
      clear ha hb hc ht
      go_wp2_with fail
      go_loopw [37] (fun iv W => ∃ i : Nat, i ≤ 2 ∧ iv = .int .i64 (i : Int) ∧ Aside0 (GS w0 W C g G (stI t i) (supI a b c t i))) (fun iv _ => 2 - (intOf iv).toNat)
      case atStart => exact ⟨0, by omega, rfl, ⟨HG11.out⟩⟩
      case round =>
        obtain ⟨i, hi, rfl, ⟨hp⟩⟩ := hrel
        have hi3 : i = 0 ∨ i = 1 ∨ i = 2 := by omega
        rcases hi3 with rfl | rfl | rfl
        ·
          have hp0 : GS w0 wr C g G t ⟨a, b, c, zeroA, zeroA, 0, 0, 0, 0, 0, 0, 0⟩ := hp
          obtain ⟨t0, ht0⟩ : ∃ s, t = s := ⟨_, rfl⟩
          rw [ht0] at hp0
          have HT0 := Lib.hid ht0
          clear ht0
          have HG0 := Lib.hid hp0
          clear hp hp0
          go_wp2_with fail
          refine (nextSuper_calls w0 C g t0 _ HG0.out.nx).mono ?_; rintro e wa ⟨rfl, hna, hga⟩
          obtain ⟨o, ho⟩ : ∃ q, rNext t0 = q := ⟨_, rfl⟩
          rw [ho] at hna ⊢
          have HEo := Lib.hid ho
          have HGa := Lib.hid (HG0.out.read hna hga)
          clear ho hna hga
          have ba := blk_cell HGa.out.nx.cell 0
          simp only [List.getElem?_toArray, List.getElem?_cons_succ, List.getElem?_cons_zero] at ba
          go_upto_region 12 with fail
          refine start_ (n := 15) (S := fun w' => w'.cell? ⟨C, 0, none⟩ = some (.pointer (some ⟨g, 0, none⟩))) (ds := [14]) #[false, false, false, false, false, false, false, false, false, false, false, false, false, false, false] (by kernel_rfl) rfl rfl (ba) (fun hHeld => ?_)
          refine pure_ (i := 0) (N := some 42) (v := ?_) (a' := ?_) #[true, false, false, false, false, false, false, false, false, false, false, false, false, false, false] rfl rfl (by kernel_rfl) (fun _ _ _ h => h) (Or.inl ⟨by rfl, ?_⟩) ?_ ?_
          rotate_left
          · intro w'
            go_simp
            with_reducible rfl
          rotate_left
          · simp only [Act.put, List.setIfInBounds_toArray, List.set_cons_zero, List.set_cons_succ, i64_w, i32_w]
            rfl
          refine pure_ (i := 1) (N := some 43) (v := ?_) (a' := ?_) #[true, true, false, false, false, false, false, false, false, false, false, false, false, false, false] rfl rfl (by kernel_rfl) (fun _ _ _ h => h) (Or.inl ⟨by rfl, ?_⟩) ?_ ?_
          rotate_left
          · intro w'
            go_simp
            with_reducible rfl
          rotate_left
          · simp only [Act.put, List.setIfInBounds_toArray, List.set_cons_zero, List.set_cons_succ, i64_w, i32_w]
            rfl
          refine pure_ (i := 2) (N := some 44) (v := ?_) (a' := ?_) #[true, true, true, false, false, false, false, false, false, false, false, false, false, false, false] rfl rfl (by kernel_rfl) (fun _ _ _ h => h) (Or.inl ⟨by rfl, ?_⟩) ?_ ?_
          rotate_left
          · intro w'
            go_simp
            with_reducible rfl
          rotate_left
          · simp only [Act.put, List.setIfInBounds_toArray, List.set_cons_zero, List.set_cons_succ, i64_w, i32_w]
            rfl
          refine pure_ (i := 11) (N := some 53) (v := ?_) (a' := ?_) #[true, true, true, false, false, false, false, false, false, false, false, true, false, false, false] rfl rfl (by kernel_rfl) (fun _ _ _ h => h) (Or.inl ⟨by rfl, ?_⟩) ?_ ?_
          rotate_left
          · intro w'
            go_simp
            with_reducible rfl
          rotate_left
          · simp only [Act.put, List.setIfInBounds_toArray, List.set_cons_zero, List.set_cons_succ, i64_w, i32_w]
            rfl
          refine pure_ (i := 12) (N := some 54) (v := ?_) (a' := ?_) #[true, true, true, false, false, false, false, false, false, false, false, true, true, false, false] rfl rfl (by kernel_rfl) (fun _ _ _ h => h) (Or.inl ⟨by rfl, ?_⟩) ?_ ?_
          rotate_left
          · intro w'
            go_simp
            with_reducible rfl
          rotate_left
          · simp only [Act.put, List.setIfInBounds_toArray, List.set_cons_zero, List.set_cons_succ, i64_w, i32_w]
            rfl
          refine take_ (i := 3) (N := some 45) (v := ?_) (a' := ?_) #[true, true, true, true, false, false, false, false, false, false, false, true, true, false, false] rfl rfl (by kernel_rfl) (fun _ _ _ h => h) (Or.inl ⟨by rfl, ?_⟩) hHeld ?_ ?_
          rotate_left
          · intro w' s0
            go_simp
            with_reducible rfl
          rotate_left
          · simp only [Act.put, List.setIfInBounds_toArray, List.set_cons_zero, List.set_cons_succ, i64_w, i32_w]
            rfl
          refine take_ (i := 5) (N := some 47) (v := ?_) (a' := ?_) #[true, true, true, true, false, true, false, false, false, false, false, true, true, false, false] rfl rfl (by kernel_rfl) (fun _ _ _ h => h) (Or.inl ⟨by rfl, ?_⟩) hHeld ?_ ?_
          rotate_left
          · intro w' s0
            go_simp
            with_reducible rfl
          rotate_left
          · simp only [Act.put, List.setIfInBounds_toArray, List.set_cons_zero, List.set_cons_succ, i64_w, i32_w]
            rfl
          refine take_ (i := 7) (N := some 49) (v := ?_) (a' := ?_) #[true, true, true, true, false, true, false, true, false, false, false, true, true, false, false] rfl rfl (by kernel_rfl) (fun _ _ _ h => h) (Or.inl ⟨by rfl, ?_⟩) hHeld ?_ ?_
          rotate_left
          · intro w' s0
            go_simp
            with_reducible rfl
          rotate_left
          · simp only [Act.put, List.setIfInBounds_toArray, List.set_cons_zero, List.set_cons_succ, i64_w, i32_w]
            rfl
          refine one_ (i := 4) (N := some 46) #[true, true, true, true, true, true, false, true, false, false, false, true, true, false, false] rfl rfl (by kernel_rfl) (by decide) (fun K hK => ?_)
          refine goes_ Tryd.func33 (by kernel_rfl) rfl #[.pointer (some ⟨g, 0, none⟩)] (by rfl) rfl rfl (by simp only [List.map_toArray, List.map_cons, List.map_nil]; rfl) ?_
          with_reducible refine (intQ_calls w0 C g o.2 _ (HGa.out.under (below_drew (Below.refl _ _))).nx).mono ?_
          rintro e wx ⟨rfl, hnx, hgx⟩
          refine ⟨_, rfl, ?_⟩
          obtain ⟨x, hx⟩ : ∃ q, rInt' o.2 = q := ⟨_, rfl⟩
          rw [hx] at hnx ⊢
          have HEx := Lib.hid hx
          have HGx := Lib.hid ((HGa.out.under (below_drew (Below.refl _ _))).read hnx hgx)
          have bbx := blk_cell HGx.out.nx.cell 0
          simp only [List.getElem?_toArray, List.getElem?_cons_succ, List.getElem?_cons_zero] at bbx
          clear hx hnx hgx
          refine hK.out _ _ (bbx) (fun hHeld => ?_)
          clear hK K
          refine norm_ (a' := ?_) ?_ ?_
          rotate_left
          · show Act.put _ (some 46) _ = _
            simp only [Act.put, List.setIfInBounds_toArray, List.set_cons_zero, List.set_cons_succ, i64_w, i32_w]
            rfl
          refine one_ (i := 6) (N := some 48) #[true, true, true, true, true, true, true, true, false, false, false, true, true, false, false] rfl rfl (by kernel_rfl) (by decide) (fun K hK => ?_)
          refine goes_ Tryd.func33 (by kernel_rfl) rfl #[.pointer (some ⟨g, 0, none⟩)] (by rfl) rfl rfl (by simp only [List.map_toArray, List.map_cons, List.map_nil]; rfl) ?_
          with_reducible refine (intQ_calls w0 C g x.2 _ HGx.out.nx).mono ?_
          rintro e wy ⟨rfl, hny, hgy⟩
          refine ⟨_, rfl, ?_⟩
          obtain ⟨y, hy⟩ : ∃ q, rInt' x.2 = q := ⟨_, rfl⟩
          rw [hy] at hny ⊢
          have HEy := Lib.hid hy
          have HGy := Lib.hid (HGx.out.read hny hgy)
          have bby := blk_cell HGy.out.nx.cell 0
          simp only [List.getElem?_toArray, List.getElem?_cons_succ, List.getElem?_cons_zero] at bby
          clear hy hny hgy
          refine hK.out _ _ (bby) (fun hHeld => ?_)
          clear hK K
          refine norm_ (a' := ?_) ?_ ?_
          rotate_left
          · show Act.put _ (some 48) _ = _
            simp only [Act.put, List.setIfInBounds_toArray, List.set_cons_zero, List.set_cons_succ, i64_w, i32_w]
            rfl
          refine one_ (i := 8) (N := some 50) #[true, true, true, true, true, true, true, true, true, false, false, true, true, false, false] rfl rfl (by kernel_rfl) (by decide) (fun K hK => ?_)
          refine goes_ Tryd.func33 (by kernel_rfl) rfl #[.pointer (some ⟨g, 0, none⟩)] (by rfl) rfl rfl (by simp only [List.map_toArray, List.map_cons, List.map_nil]; rfl) ?_
          with_reducible refine (intQ_calls w0 C g y.2 _ HGy.out.nx).mono ?_
          rintro e wz ⟨rfl, hnz, hgz⟩
          refine ⟨_, rfl, ?_⟩
          obtain ⟨z, hz⟩ : ∃ q, rInt' y.2 = q := ⟨_, rfl⟩
          rw [hz] at hnz ⊢
          have HEz := Lib.hid hz
          have HGz := Lib.hid (HGy.out.read hnz hgz)
          have bbz := blk_cell HGz.out.nx.cell 0
          simp only [List.getElem?_toArray, List.getElem?_cons_succ, List.getElem?_cons_zero] at bbz
          clear hz hnz hgz
          obtain ⟨c0, c1, c2, c3, c4, c5, c6, c7, c8, c9, c10, c11, c12, c13, c14, c15, c16, c17⟩ := HGz.out.sup.cells
          have f3 := blk_frozen HGz.out.sup 3
          have f4 := blk_frozen HGz.out.sup 4
          have f5 := blk_frozen HGz.out.sup 5
          have f6 := blk_frozen HGz.out.sup 6
          refine hK.out _ _ (bbz) (fun hHeld => ?_)
          clear hK K
          refine norm_ (a' := ?_) ?_ ?_
          rotate_left
          · show Act.put _ (some 50) _ = _
            simp only [Act.put, List.setIfInBounds_toArray, List.set_cons_zero, List.set_cons_succ, i64_w, i32_w]
            rfl
          refine pure_ (i := 9) (N := some 51) (v := ?_) (a' := ?_) #[true, true, true, true, true, true, true, true, true, true, false, true, true, false, false] rfl rfl (by kernel_rfl) (fun _ _ _ h => h) (Or.inl ⟨by rfl, ?_⟩) ?_ ?_
          rotate_left
          · intro w'
            go_simp
            with_reducible rfl
          rotate_left
          · simp only [Act.put, List.setIfInBounds_toArray, List.set_cons_zero, List.set_cons_succ, i64_w, i32_w]
            rfl
          refine pure_ (i := 10) (N := some 52) (v := ?_) (a' := ?_) #[true, true, true, true, true, true, true, true, true, true, true, true, true, false, false] rfl rfl (by kernel_rfl) (fun _ _ _ h => h) (Or.inl ⟨by rfl, ?_⟩) ?_ ?_
          rotate_left
          · intro w'
            go_simp
            with_reducible rfl
          rotate_left
          · simp only [Act.put, List.setIfInBounds_toArray, List.set_cons_zero, List.set_cons_succ, i64_w, i32_w]
            rfl
          refine pure_ (i := 13) (N := some 55) (v := ?_) (a' := ?_) #[true, true, true, true, true, true, true, true, true, true, true, true, true, true, false] rfl rfl (by kernel_rfl) (fun _ _ _ h => h) (Or.inl ⟨by rfl, ?_⟩) ?_ ?_
          rotate_left
          · intro w'
            go_simp
            with_reducible rfl
          rotate_left
          · simp only [Act.put, List.setIfInBounds_toArray, List.set_cons_zero, List.set_cons_succ, i64_w, i32_w]
            rfl
          refine last_ (i := 14) (N := none) #[true, true, true, true, true, true, true, true, true, true, true, true, true, true, true] rfl rfl (by kernel_rfl) (by decide) (fun K hK => ?_)
          refine skip_ (w1 := ?_) (by rfl) rfl ?_ ?_
          rotate_left
          · go_simp
            rfl
          refine hK.out _ _ ?_
          clear hK K
          refine done_ (by kernel_rfl) ?_
          have K1 := HGz.out.set 3 (.int .i64 x.1) (s' := (⟨a, b, c, ⟨zeroA.on, x.1, zeroA.y, zeroA.z⟩, zeroA, 0, 0, 0, 0, 0, 0, 0⟩ : Sup)) rfl
          have K2 := K1.set 4 (.int .i64 y.1) (s' := (⟨a, b, c, ⟨zeroA.on, x.1, y.1, zeroA.z⟩, zeroA, 0, 0, 0, 0, 0, 0, 0⟩ : Sup)) rfl
          have K3 := K2.set 5 (.int .i64 z.1) (s' := (⟨a, b, c, ⟨zeroA.on, x.1, y.1, z.1⟩, zeroA, 0, 0, 0, 0, 0, 0, 0⟩ : Sup)) rfl
          have K4 := K3.set 6 (.bool (o.1 == 1)) (s' := (⟨a, b, c, ⟨(decide (o.1 = 1)), x.1, y.1, z.1⟩, zeroA, 0, 0, 0, 0, 0, 0, 0⟩ : Sup)) rfl
          have HK4 := Lib.hid K4
          clear K1 K2 K3 K4 ba
          have HRA : Hid (readA t0 = (⟨decide (o.1 = 1), x.1, y.1, z.1⟩, z.2)) := Lib.hid (by unfold readA; simp only [HEo.out, HEx.out, HEy.out, HEz.out])
          go_wp2_with fail
          go_roundw
          case rel => exact ⟨1, by omega, rfl, ⟨by show GS w0 _ C g G (readA t).2 ⟨a, b, c, (readA t).1, zeroA, 0, 0, 0, 0, 0, 0, 0⟩; rw [HT0.out, HRA.out]; exact HK4.out⟩⟩
          case measure => simp [intOf]
        ·
          have hp0 : GS w0 wr C g G (readA t).2 ⟨a, b, c, (readA t).1, zeroA, 0, 0, 0, 0, 0, 0, 0⟩ := hp
          obtain ⟨A0, hA0⟩ : ∃ A, (readA t).1 = A := ⟨_, rfl⟩
          obtain ⟨t0, ht0⟩ : ∃ s, (readA t).2 = s := ⟨_, rfl⟩
          rw [hA0, ht0] at hp0
          have HA0 := Lib.hid hA0
          have HT0 := Lib.hid ht0
          clear hA0 ht0
          have HG0 := Lib.hid hp0
          clear hp hp0
          go_wp2_with fail
          refine (nextSuper_calls w0 C g t0 _ HG0.out.nx).mono ?_; rintro e wa ⟨rfl, hna, hga⟩
          obtain ⟨o, ho⟩ : ∃ q, rNext t0 = q := ⟨_, rfl⟩
          rw [ho] at hna ⊢
          have HEo := Lib.hid ho
          have HGa := Lib.hid (HG0.out.read hna hga)
          clear ho hna hga
          have ba := blk_cell HGa.out.nx.cell 0
          simp only [List.getElem?_toArray, List.getElem?_cons_succ, List.getElem?_cons_zero] at ba
          go_upto_region 12 with fail
          refine start_ (n := 15) (S := fun w' => w'.cell? ⟨C, 0, none⟩ = some (.pointer (some ⟨g, 0, none⟩))) (ds := [14]) #[false, false, false, false, false, false, false, false, false, false, false, false, false, false, false] (by kernel_rfl) rfl rfl (ba) (fun hHeld => ?_)
          refine pure_ (i := 0) (N := some 42) (v := ?_) (a' := ?_) #[true, false, false, false, false, false, false, false, false, false, false, false, false, false, false] rfl rfl (by kernel_rfl) (fun _ _ _ h => h) (Or.inl ⟨by rfl, ?_⟩) ?_ ?_
          rotate_left
          · intro w'
            go_simp
            with_reducible rfl
          rotate_left
          · simp only [Act.put, List.setIfInBounds_toArray, List.set_cons_zero, List.set_cons_succ, i64_w, i32_w]
            rfl
          refine pure_ (i := 1) (N := some 43) (v := ?_) (a' := ?_) #[true, true, false, false, false, false, false, false, false, false, false, false, false, false, false] rfl rfl (by kernel_rfl) (fun _ _ _ h => h) (Or.inl ⟨by rfl, ?_⟩) ?_ ?_
          rotate_left
          · intro w'
            go_simp
            with_reducible rfl
          rotate_left
          · simp only [Act.put, List.setIfInBounds_toArray, List.set_cons_zero, List.set_cons_succ, i64_w, i32_w]
            rfl
          refine pure_ (i := 2) (N := some 44) (v := ?_) (a' := ?_) #[true, true, true, false, false, false, false, false, false, false, false, false, false, false, false] rfl rfl (by kernel_rfl) (fun _ _ _ h => h) (Or.inl ⟨by rfl, ?_⟩) ?_ ?_
          rotate_left
          · intro w'
            go_simp
            with_reducible rfl
          rotate_left
          · simp only [Act.put, List.setIfInBounds_toArray, List.set_cons_zero, List.set_cons_succ, i64_w, i32_w]
            rfl
          refine pure_ (i := 11) (N := some 53) (v := ?_) (a' := ?_) #[true, true, true, false, false, false, false, false, false, false, false, true, false, false, false] rfl rfl (by kernel_rfl) (fun _ _ _ h => h) (Or.inl ⟨by rfl, ?_⟩) ?_ ?_
          rotate_left
          · intro w'
            go_simp
            with_reducible rfl
          rotate_left
          · simp only [Act.put, List.setIfInBounds_toArray, List.set_cons_zero, List.set_cons_succ, i64_w, i32_w]
            rfl
          refine pure_ (i := 12) (N := some 54) (v := ?_) (a' := ?_) #[true, true, true, false, false, false, false, false, false, false, false, true, true, false, false] rfl rfl (by kernel_rfl) (fun _ _ _ h => h) (Or.inl ⟨by rfl, ?_⟩) ?_ ?_
          rotate_left
          · intro w'
            go_simp
            with_reducible rfl
          rotate_left
          · simp only [Act.put, List.setIfInBounds_toArray, List.set_cons_zero, List.set_cons_succ, i64_w, i32_w]
            rfl
          refine take_ (i := 3) (N := some 45) (v := ?_) (a' := ?_) #[true, true, true, true, false, false, false, false, false, false, false, true, true, false, false] rfl rfl (by kernel_rfl) (fun _ _ _ h => h) (Or.inl ⟨by rfl, ?_⟩) hHeld ?_ ?_
          rotate_left
          · intro w' s0
            go_simp
            with_reducible rfl
          rotate_left
          · simp only [Act.put, List.setIfInBounds_toArray, List.set_cons_zero, List.set_cons_succ, i64_w, i32_w]
            rfl
          refine take_ (i := 5) (N := some 47) (v := ?_) (a' := ?_) #[true, true, true, true, false, true, false, false, false, false, false, true, true, false, false] rfl rfl (by kernel_rfl) (fun _ _ _ h => h) (Or.inl ⟨by rfl, ?_⟩) hHeld ?_ ?_
          rotate_left
          · intro w' s0
            go_simp
            with_reducible rfl
          rotate_left
          · simp only [Act.put, List.setIfInBounds_toArray, List.set_cons_zero, List.set_cons_succ, i64_w, i32_w]
            rfl
          refine take_ (i := 7) (N := some 49) (v := ?_) (a' := ?_) #[true, true, true, true, false, true, false, true, false, false, false, true, true, false, false] rfl rfl (by kernel_rfl) (fun _ _ _ h => h) (Or.inl ⟨by rfl, ?_⟩) hHeld ?_ ?_
          rotate_left
          · intro w' s0
            go_simp
            with_reducible rfl
          rotate_left
          · simp only [Act.put, List.setIfInBounds_toArray, List.set_cons_zero, List.set_cons_succ, i64_w, i32_w]
            rfl
          refine one_ (i := 4) (N := some 46) #[true, true, true, true, true, true, false, true, false, false, false, true, true, false, false] rfl rfl (by kernel_rfl) (by decide) (fun K hK => ?_)
          refine goes_ Tryd.func33 (by kernel_rfl) rfl #[.pointer (some ⟨g, 0, none⟩)] (by rfl) rfl rfl (by simp only [List.map_toArray, List.map_cons, List.map_nil]; rfl) ?_
          with_reducible refine (intQ_calls w0 C g o.2 _ (HGa.out.under (below_drew (Below.refl _ _))).nx).mono ?_
          rintro e wx ⟨rfl, hnx, hgx⟩
          refine ⟨_, rfl, ?_⟩
          obtain ⟨x, hx⟩ : ∃ q, rInt' o.2 = q := ⟨_, rfl⟩
          rw [hx] at hnx ⊢
          have HEx := Lib.hid hx
          have HGx := Lib.hid ((HGa.out.under (below_drew (Below.refl _ _))).read hnx hgx)
          have bbx := blk_cell HGx.out.nx.cell 0
          simp only [List.getElem?_toArray, List.getElem?_cons_succ, List.getElem?_cons_zero] at bbx
          clear hx hnx hgx
          refine hK.out _ _ (bbx) (fun hHeld => ?_)
          clear hK K
          refine norm_ (a' := ?_) ?_ ?_
          rotate_left
          · show Act.put _ (some 46) _ = _
            simp only [Act.put, List.setIfInBounds_toArray, List.set_cons_zero, List.set_cons_succ, i64_w, i32_w]
            rfl
          refine one_ (i := 6) (N := some 48) #[true, true, true, true, true, true, true, true, false, false, false, true, true, false, false] rfl rfl (by kernel_rfl) (by decide) (fun K hK => ?_)
          refine goes_ Tryd.func33 (by kernel_rfl) rfl #[.pointer (some ⟨g, 0, none⟩)] (by rfl) rfl rfl (by simp only [List.map_toArray, List.map_cons, List.map_nil]; rfl) ?_
          with_reducible refine (intQ_calls w0 C g x.2 _ HGx.out.nx).mono ?_
          rintro e wy ⟨rfl, hny, hgy⟩
          refine ⟨_, rfl, ?_⟩
          obtain ⟨y, hy⟩ : ∃ q, rInt' x.2 = q := ⟨_, rfl⟩
          rw [hy] at hny ⊢
          have HEy := Lib.hid hy
          have HGy := Lib.hid (HGx.out.read hny hgy)
          have bby := blk_cell HGy.out.nx.cell 0
          simp only [List.getElem?_toArray, List.getElem?_cons_succ, List.getElem?_cons_zero] at bby
          clear hy hny hgy
          refine hK.out _ _ (bby) (fun hHeld => ?_)
          clear hK K
          refine norm_ (a' := ?_) ?_ ?_
          rotate_left
          · show Act.put _ (some 48) _ = _
            simp only [Act.put, List.setIfInBounds_toArray, List.set_cons_zero, List.set_cons_succ, i64_w, i32_w]
            rfl
          refine one_ (i := 8) (N := some 50) #[true, true, true, true, true, true, true, true, true, false, false, true, true, false, false] rfl rfl (by kernel_rfl) (by decide) (fun K hK => ?_)
          refine goes_ Tryd.func33 (by kernel_rfl) rfl #[.pointer (some ⟨g, 0, none⟩)] (by rfl) rfl rfl (by simp only [List.map_toArray, List.map_cons, List.map_nil]; rfl) ?_
          with_reducible refine (intQ_calls w0 C g y.2 _ HGy.out.nx).mono ?_
          rintro e wz ⟨rfl, hnz, hgz⟩
          refine ⟨_, rfl, ?_⟩
          obtain ⟨z, hz⟩ : ∃ q, rInt' y.2 = q := ⟨_, rfl⟩
          rw [hz] at hnz ⊢
          have HEz := Lib.hid hz
          have HGz := Lib.hid (HGy.out.read hnz hgz)
          have bbz := blk_cell HGz.out.nx.cell 0
          simp only [List.getElem?_toArray, List.getElem?_cons_succ, List.getElem?_cons_zero] at bbz
          clear hz hnz hgz
          obtain ⟨c0, c1, c2, c3, c4, c5, c6, c7, c8, c9, c10, c11, c12, c13, c14, c15, c16, c17⟩ := HGz.out.sup.cells
          have f7 := blk_frozen HGz.out.sup 7
          have f8 := blk_frozen HGz.out.sup 8
          have f9 := blk_frozen HGz.out.sup 9
          have f10 := blk_frozen HGz.out.sup 10
          refine hK.out _ _ (bbz) (fun hHeld => ?_)
          clear hK K
          refine norm_ (a' := ?_) ?_ ?_
          rotate_left
          · show Act.put _ (some 50) _ = _
            simp only [Act.put, List.setIfInBounds_toArray, List.set_cons_zero, List.set_cons_succ, i64_w, i32_w]
            rfl
          refine pure_ (i := 9) (N := some 51) (v := ?_) (a' := ?_) #[true, true, true, true, true, true, true, true, true, true, false, true, true, false, false] rfl rfl (by kernel_rfl) (fun _ _ _ h => h) (Or.inl ⟨by rfl, ?_⟩) ?_ ?_
          rotate_left
          · intro w'
            go_simp
            with_reducible rfl
          rotate_left
          · simp only [Act.put, List.setIfInBounds_toArray, List.set_cons_zero, List.set_cons_succ, i64_w, i32_w]
            rfl
          refine pure_ (i := 10) (N := some 52) (v := ?_) (a' := ?_) #[true, true, true, true, true, true, true, true, true, true, true, true, true, false, false] rfl rfl (by kernel_rfl) (fun _ _ _ h => h) (Or.inl ⟨by rfl, ?_⟩) ?_ ?_
          rotate_left
          · intro w'
            go_simp
            with_reducible rfl
          rotate_left
          · simp only [Act.put, List.setIfInBounds_toArray, List.set_cons_zero, List.set_cons_succ, i64_w, i32_w]
            rfl
          refine pure_ (i := 13) (N := some 55) (v := ?_) (a' := ?_) #[true, true, true, true, true, true, true, true, true, true, true, true, true, true, false] rfl rfl (by kernel_rfl) (fun _ _ _ h => h) (Or.inl ⟨by rfl, ?_⟩) ?_ ?_
          rotate_left
          · intro w'
            go_simp
            with_reducible rfl
          rotate_left
          · simp only [Act.put, List.setIfInBounds_toArray, List.set_cons_zero, List.set_cons_succ, i64_w, i32_w]
            rfl
          refine last_ (i := 14) (N := none) #[true, true, true, true, true, true, true, true, true, true, true, true, true, true, true] rfl rfl (by kernel_rfl) (by decide) (fun K hK => ?_)
          refine skip_ (w1 := ?_) (by rfl) rfl ?_ ?_
          rotate_left
          · go_simp
            rfl
          refine hK.out _ _ ?_
          clear hK K
          refine done_ (by kernel_rfl) ?_
          have K1 := HGz.out.set 7 (.int .i64 x.1) (s' := (⟨a, b, c, A0, ⟨zeroA.on, x.1, zeroA.y, zeroA.z⟩, 0, 0, 0, 0, 0, 0, 0⟩ : Sup)) rfl
          have K2 := K1.set 8 (.int .i64 y.1) (s' := (⟨a, b, c, A0, ⟨zeroA.on, x.1, y.1, zeroA.z⟩, 0, 0, 0, 0, 0, 0, 0⟩ : Sup)) rfl
          have K3 := K2.set 9 (.int .i64 z.1) (s' := (⟨a, b, c, A0, ⟨zeroA.on, x.1, y.1, z.1⟩, 0, 0, 0, 0, 0, 0, 0⟩ : Sup)) rfl
          have K4 := K3.set 10 (.bool (o.1 == 1)) (s' := (⟨a, b, c, A0, ⟨(decide (o.1 = 1)), x.1, y.1, z.1⟩, 0, 0, 0, 0, 0, 0, 0⟩ : Sup)) rfl
          have HK4 := Lib.hid K4
          clear K1 K2 K3 K4 ba
          have HRA : Hid (readA t0 = (⟨decide (o.1 = 1), x.1, y.1, z.1⟩, z.2)) := Lib.hid (by unfold readA; simp only [HEo.out, HEx.out, HEy.out, HEz.out])
          go_wp2_with fail
          go_roundw
          case rel => exact ⟨2, by omega, rfl, ⟨by show GS w0 _ C g G (readA (readA t).2).2 ⟨a, b, c, (readA t).1, (readA (readA t).2).1, 0, 0, 0, 0, 0, 0, 0⟩; rw [HA0.out, HT0.out, HRA.out]; exact HK4.out⟩⟩
          case measure => simp [intOf]
        · have hp0 : GS w0 wr C g G (readA (readA t).2).2 ⟨a, b, c, (readA t).1, (readA (readA t).2).1, 0, 0, 0, 0, 0, 0, 0⟩ := hp
          obtain ⟨A5, hA5⟩ : ∃ A, readA t = A := ⟨_, rfl⟩
          obtain ⟨B5, hB5⟩ : ∃ B, readA A5.2 = B := ⟨_, rfl⟩
          rw [hA5, hB5] at hp0
          have HA5 := Lib.hid hA5
          have HB5 := Lib.hid hB5
          obtain ⟨t5, ht5⟩ : ∃ s, B5.2 = s := ⟨_, rfl⟩
          rw [ht5] at hp0
          have HT5 := Lib.hid ht5
          have HG5 := Lib.hid hp0
          clear hp hp0 hA5 hB5 ht5
          go_wp2_with fail
          refine (nextSuper_calls w0 C g t5 _ HG5.out.nx).mono ?_; rintro e wd1 ⟨rfl, hnd1, hgd1⟩
          obtain ⟨d1, hd1⟩ : ∃ q, rNext t5 = q := ⟨_, rfl⟩
          rw [hd1] at hnd1 ⊢
          have HEd1 := Lib.hid hd1
          have HGd1 := Lib.hid (HG5.out.read hnd1 hgd1)
          clear hd1 hnd1 hgd1
          go_wp2_with fail
          refine (nextSuper_calls w0 C g d1.2 _ HGd1.out.nx).mono ?_; rintro e wd2 ⟨rfl, hnd2, hgd2⟩
          obtain ⟨d2, hd2⟩ : ∃ q, rNext d1.2 = q := ⟨_, rfl⟩
          rw [hd2] at hnd2 ⊢
          have HEd2 := Lib.hid hd2
          have HGd2 := Lib.hid (HGd1.out.read hnd2 hgd2)
          clear hd2 hnd2 hgd2
          go_wp2_with fail
          refine (nextSuper_calls w0 C g d2.2 _ HGd2.out.nx).mono ?_; rintro e wd3 ⟨rfl, hnd3, hgd3⟩
          obtain ⟨d3, hd3⟩ : ∃ q, rNext d2.2 = q := ⟨_, rfl⟩
          rw [hd3] at hnd3 ⊢
          have HEd3 := Lib.hid hd3
          have HGd3 := Lib.hid (HGd2.out.read hnd3 hgd3)
          clear hd3 hnd3 hgd3
          go_wp2_with fail
          refine (nextSuper_calls w0 C g d3.2 _ HGd3.out.nx).mono ?_; rintro e wd4 ⟨rfl, hnd4, hgd4⟩
          obtain ⟨d4, hd4⟩ : ∃ q, rNext d3.2 = q := ⟨_, rfl⟩
          rw [hd4] at hnd4 ⊢
          have HEd4 := Lib.hid hd4
          have HGd4 := Lib.hid (HGd3.out.read hnd4 hgd4)
          clear hd4 hnd4 hgd4
          obtain ⟨c0, c1, c2, c3, c4, c5, c6, c7, c8, c9, c10, c11, c12, c13, c14, c15, c16, c17⟩ := HGd4.out.sup.cells
          have f11 := blk_frozen HGd4.out.sup 11
          have f12 := blk_frozen HGd4.out.sup 12
          have f13 := blk_frozen HGd4.out.sup 13
          have f14 := blk_frozen HGd4.out.sup 14
          go_upto_region 16 with fail
          have K1 := HGd4.out.set 11 (.int .i64 d1.1) (s' := (⟨a, b, c, A5.1, B5.1, d1.1, 0, 0, 0, 0, 0, 0⟩ : Sup)) rfl
          have K2 := K1.set 12 (.int .i64 d2.1) (s' := (⟨a, b, c, A5.1, B5.1, d1.1, d2.1, 0, 0, 0, 0, 0⟩ : Sup)) rfl
          have K3 := K2.set 13 (.int .i64 d3.1) (s' := (⟨a, b, c, A5.1, B5.1, d1.1, d2.1, d3.1, 0, 0, 0, 0⟩ : Sup)) rfl
          have K4 := K3.set 14 (.int .i64 d4.1) (s' := (⟨a, b, c, A5.1, B5.1, d1.1, d2.1, d3.1, d4.1, 0, 0, 0⟩ : Sup)) rfl
          have HK := Lib.hid K4
          clear K1 K2 K3 K4 c0 c1 c2 c3 c4 c5 c6 c7 c8 c9 c10 c11 c12 c13 c14 c15 c16 c17 f11 f12 f13 f14
          obtain ⟨W8, hW8⟩ : ∃ W, (((wd4.setCell ⟨G, 11, none⟩ (.int .i64 d1.1)).setCell ⟨G, 12, none⟩ (.int .i64 d2.1)).setCell ⟨G, 13, none⟩ (.int .i64 d3.1)).setCell ⟨G, 14, none⟩ (.int .i64 d4.1) = W := ⟨_, rfl⟩
          rw [hW8] at HK
          rw [hW8]
          have HG8 := Lib.hid HK.out
          clear hW8 HK
          go_wp2_with fail
          refine (nextSuper_calls w0 C g d4.2 _ HG8.out.nx).mono ?_; rintro e we1 ⟨rfl, hne1, hge1⟩
          obtain ⟨e1, he1⟩ : ∃ q, rNext d4.2 = q := ⟨_, rfl⟩
          rw [he1] at hne1 ⊢
          have HEe1 := Lib.hid he1
          have HGe1 := Lib.hid (HG8.out.read hne1 hge1)
          clear he1 hne1 hge1
          go_wp2_with fail
          refine (nextSuper_calls w0 C g e1.2 _ HGe1.out.nx).mono ?_; rintro e we2 ⟨rfl, hne2, hge2⟩
          obtain ⟨e2, he2⟩ : ∃ q, rNext e1.2 = q := ⟨_, rfl⟩
          rw [he2] at hne2 ⊢
          have HEe2 := Lib.hid he2
          have HGe2 := Lib.hid (HGe1.out.read hne2 hge2)
          clear he2 hne2 hge2
          go_wp2_with fail
          refine (nextSuper_calls w0 C g e2.2 _ HGe2.out.nx).mono ?_; rintro e we3 ⟨rfl, hne3, hge3⟩
          obtain ⟨e3, he3⟩ : ∃ q, rNext e2.2 = q := ⟨_, rfl⟩
          rw [he3] at hne3 ⊢
          have HEe3 := Lib.hid he3
          have HGe3 := Lib.hid (HGe2.out.read hne3 hge3)
          clear he3 hne3 hge3
          obtain ⟨c0, c1, c2, c3, c4, c5, c6, c7, c8, c9, c10, c11, c12, c13, c14, c15, c16, c17⟩ := HGe3.out.sup.cells
          have f15 := blk_frozen HGe3.out.sup 15
          have f16 := blk_frozen HGe3.out.sup 16
          have f17 := blk_frozen HGe3.out.sup 17
          go_upto_region 17 with fail
          have K1 := HGe3.out.set 15 (.int .i64 e1.1) (s' := (⟨a, b, c, A5.1, B5.1, d1.1, d2.1, d3.1, d4.1, e1.1, 0, 0⟩ : Sup)) rfl
          have K2 := K1.set 16 (.int .i64 e2.1) (s' := (⟨a, b, c, A5.1, B5.1, d1.1, d2.1, d3.1, d4.1, e1.1, e2.1, 0⟩ : Sup)) rfl
          have K3 := K2.set 17 (.int .i64 e3.1) (s' := (⟨a, b, c, A5.1, B5.1, d1.1, d2.1, d3.1, d4.1, e1.1, e2.1, e3.1⟩ : Sup)) rfl
          have HK := Lib.hid K3
          clear K1 K2 K3 c0 c1 c2 c3 c4 c5 c6 c7 c8 c9 c10 c11 c12 c13 c14 c15 c16 c17 f15 f16 f17
          obtain ⟨W9, hW9⟩ : ∃ W, ((we3.setCell ⟨G, 15, none⟩ (.int .i64 e1.1)).setCell ⟨G, 16, none⟩ (.int .i64 e2.1)).setCell ⟨G, 17, none⟩ (.int .i64 e3.1) = W := ⟨_, rfl⟩
          rw [hW9] at HK
          rw [hW9]
          have HG9 := Lib.hid HK.out
          clear hW9 HK
          have HRS : Hid (readS X = (⟨a, b, c, A5.1, B5.1, d1.1, d2.1, d3.1, d4.1, e1.1, e2.1, e3.1⟩ : Sup)) := Lib.hid (by
            unfold readS
            simp only [HQ1.out, HQ2.out, HQ3.out, Ht.out, HA5.out, HB5.out, HT5.out, HEd1.out, HEd2.out, HEd3.out, HEd4.out, HEe1.out, HEe2.out, HEe3.out, Ha.out, Hb.out, Hc.out])
          obtain ⟨s, hs⟩ : ∃ s, (⟨a, b, c, A5.1, B5.1, d1.1, d2.1, d3.1, d4.1, e1.1, e2.1, e3.1⟩ : Sup) = s := ⟨_, rfl⟩
          have HSD : Hid (s.seed < 18446744073709551616) := Lib.hid (by rw [← hs]; exact HLT.out)
          rw [hs] at HG9 HRS
          clear hs
          have HBW : Hid (Below w.heap.size w W9) := Lib.hid (below_step HB3.out HG9.out.nx.below)
          have HAR := Lib.hid (HA2.out.below HG9.out.nx.below HA2.out.lt)
          have HRG : Hid (R < G) := Lib.hid (by have := HA2.out.lt; have := HG9.out.nx.g1; have := HG9.out.nx.g2; have := HG9.out.cG; omega)
          have HPut := Lib.hid (putSuper_calls s W9 HSD.out (HT.out.below HBW.out H0.out) (by have := HBW.out.size; have := H0.out; omega))
          go_wp2_with (refine wpList_load_mid rfl 33 (.tmp 6) rfl G 0 rfl (supC s) _ (sup_range HG9.out.sup) Tryd.underlying33 rfl sup_info ?_)
          refine HPut.out.mono ?_; rintro e w12 ⟨he, hb12⟩
          have HB12 := Lib.hid (below_step HBW.out hb12)
          have HAS := Lib.hid (HG9.out.sup.below hb12 HG9.out.sup.lt)
          have HA12 := Lib.hid (HAR.out.below hb12 HAR.out.lt)
          clear hb12
          cases hq : superB s with
          | false =>
            rw [hq, if_neg (by decide)] at he
            subst he
            have HF := Lib.hid (get_none HX.out HRS.out (.inl hq))
            clear hq HPut
            go_wp2_with (refine wpList_store_mid rfl 33 (.tmp 2) (.tmp 100) rfl R 0 (supC zeroS).toArray rfl rfl HA12.out.there sup_info (sup_one _) ?_)
            refine bodyPost_ret (results_cell2 rfl _ _ (a := ⟨R, 0, none⟩) rfl (load_sup (HA12.out.all zeroS))) rfl ?_
            exact ⟨.inr ⟨HF.out, rfl⟩, belowg HB12.out (gsets (supC zeroS) 0 _ (World.grownBy.refl _ _)) HB12.out.size (by rw [HRb.out]; exact Nat.le_refl _)⟩
          | true =>
            rw [hq, if_pos rfl] at he
            subst he
            have HK := Lib.hid ((superB_iff s HSD.out).1 hq)
            clear hq HPut
            by_cases heq : strOfNums (putS s) = sector
            · have hb1 : ((strOfNums (putS s)).toList == sector.toList) = true := BS.beq_of heq
              have hb2 : ((strOfNums (putS s)).toList != sector.toList) = false := by unfold bne; rw [hb1]; rfl
              have HE : Hid (putS s = bytesOf sector) := Lib.hid (by rw [← heq, BS.bytesOf_str _ (putS_bytes s HK.out)])
              clear heq
              go_wp2_with (first | (refine wpList_load_mid rfl 33 (.tmp 6) rfl G 0 rfl (supC s) _ (sup_range HAS.out) Tryd.underlying33 rfl sup_info ?_) | (refine wpList_store_mid rfl 33 (.tmp 2) (.tmp 101) rfl R 0 (supC s).toArray rfl rfl HA12.out.there sup_info (sup_one _) ?_))
              refine bodyPost_ret (results_cell2 rfl _ _ (a := ⟨R, 0, none⟩) rfl (load_sup (HA12.out.all s))) rfl ?_
              exact ⟨.inl ⟨s, HK.out, HE.out, rfl⟩, belowg HB12.out (gsets (supC s) 0 _ (World.grownBy.refl _ _)) HB12.out.size (by rw [HRb.out]; exact Nat.le_refl _)⟩
            · have hb1 : ((strOfNums (putS s)).toList == sector.toList) = false := BS.beq_not heq
              have hb2 : ((strOfNums (putS s)).toList != sector.toList) = true := by unfold bne; rw [hb1]; rfl
              have HF := Lib.hid (get_none HX.out HRS.out (.inr (fun e => heq (by rw [e, BS.str_bytesOf]))))
              clear heq
              go_wp2_with (refine wpList_store_mid rfl 33 (.tmp 2) (.tmp 100) rfl R 0 (supC zeroS).toArray rfl rfl HA12.out.there sup_info (sup_one _) ?_)
              refine bodyPost_ret (results_cell2 rfl _ _ (a := ⟨R, 0, none⟩) rfl (load_sup (HA12.out.all zeroS))) rfl ?_
              exact ⟨.inr ⟨HF.out, rfl⟩, belowg HB12.out (gsets (supC zeroS) 0 _ (World.grownBy.refl _ _)) HB12.out.size (by rw [HRb.out]; exact Nat.le_refl _)⟩
    · have HF := Lib.hid (pre_not (sector := sector) (fun _ h => hm h))
      have hdm := decide_eq_false hm
      have HAf := Lib.hid (HA.out.below hb2 HA.out.lt)
      have HB2 := Lib.hid (below_step HBa.out hb2)
      clear hm hb2
      go_wp2_with (refine wpList_store_mid rfl 33 (.tmp 2) (.tmp 20) rfl R 0 (supC zeroS).toArray rfl rfl HAf.out.there sup_info (sup_one _) ?_)
      refine bodyPost_ret (results_cell2 rfl _ _ (a := ⟨R, 0, none⟩) rfl (load_sup (HAf.out.all zeroS))) rfl ?_
      exact ⟨.inr ⟨HF.out, rfl⟩, belowg HB2.out (gsets (supC zeroS) 0 _ (World.grownBy.refl _ _)) HB2.out.size (by rw [HRb.out]; exact Nat.le_refl _)⟩
  · have hn1 : ((sector.size : Int) != 512) = true := by simp; omega
    have HF := Lib.hid (pre_not (sector := sector) (fun h _ => hl (by rw [← BS.size_bytesOf]; exact h)))
    go_wp2_with (refine wpList_store_mid rfl 33 (.tmp 2) (.tmp 20) rfl R 0 (supC zeroS).toArray rfl rfl HA.out.there sup_info (sup_one _) ?_)
    refine bodyPost_ret (results_cell2 rfl _ _ (a := ⟨R, 0, none⟩) rfl (load_sup (HA.out.all zeroS))) rfl ?_
    exact ⟨.inr ⟨HF.out, rfl⟩, belowg HBa.out (gsets (supC zeroS) 0 _ (World.grownBy.refl _ _)) HBa.out.size (by rw [HRb.out]; exact Nat.le_refl _)⟩
end Go.Proofs.YtijjecnmdhefbaaDoor.SP

namespace Go.Proofs.YtijjecnmdhefbaaDoor.SP
open Go.RowKit Go.Proofs.YtijjecnmdhefbaaDoorW.PrintWords Go.Proofs.YtijjecnmdhefbaaDoorW.PrintLast Go.Proofs.YtijjecnmdhefbaaDoorW.PrintMore Go.Proofs.YtijjecnmdhefbaaDoor.BR
set_option linter.unusedVariables false
set_option linter.unusedSimpArgs false
set_option maxRecDepth 100000
section
variable {ops : Array Oper} {rest : List Oper} {Q : Exit → Act → World → Prop} {a : Act} {W : World} {ty : TypeId} {pos : String} {af : Array Edge} {g : Option (Nat × Bool)}
theorem store_sup (x y : Nat) (s : Sup) {z : Sup} {G : Nat} (hx : a.eval (.tmp x) = .pointer (some ⟨G, 0, none⟩)) (hy : a.eval (.tmp y) = .agg (supC s).toArray) (hS : SupAt W G z)
    (h : wpList Tryd.prog ops Q rest (a.put none undef) (W.setCells G 0 (supC s))) : wpList Tryd.prog ops Q ({ dst := none, op := .store 33 (.tmp x) (.tmp y), type := ty, pos := pos, after := af, guard := none } :: rest) a W :=
  wpList_store_mid rfl 33 (.tmp x) (.tmp y) rfl G 0 (supC s).toArray hx hy hS.there sup_info (sup_one s) h
theorem load_supG (x : Nat) {d : Nat} (s : Sup) {G : Nat} {k : Nat} {b : Bool} (hw : Region.wanted { dst := some d, op := .load 33 (.tmp x), type := ty, pos := pos, after := af, guard := some (k, b) } (yielded ops a.tmps) = true) (hx : a.eval (.tmp x) = .pointer (some ⟨G, 0, none⟩)) (hS : SupAt W G s)
    (h : wpList Tryd.prog ops Q rest (a.put (some d) (.agg (supC s).toArray)) W) : wpList Tryd.prog ops Q ({ dst := some d, op := .load 33 (.tmp x), type := ty, pos := pos, after := af, guard := some (k, b) } :: rest) a W := by
  simp only [wpList]
  rw [if_pos hw]
  exact .inl (wp_load_mid 33 (.tmp x) rfl G 0 hx (supC s) _ (sup_range hS) Tryd.underlying33 rfl sup_info h)
theorem anc_info : ∃ i, Tryd.prog.info? 26 = some i := Option.isSome_iff_exists.1 (by kernel_rfl)
theorem eq_ancs (s : Sup) (W : World) : (Op.equalIn 9998 27 (.agg #[.int .i64 s.a.x, .int .i64 s.a.y, .int .i64 s.a.z, .bool s.a.on, .int .i64 s.b.x, .int .i64 s.b.y, .int .i64 s.b.z, .bool s.b.on]) (.agg #[.int .i64 s.a.x, .int .i64 s.a.y, .int .i64 s.a.z, .bool s.a.on, .int .i64 s.b.x, .int .i64 s.b.y, .int .i64 s.b.z, .bool s.b.on])).run Tryd.prog W = .ok true W := by
  obtain ⟨i, hi⟩ := anc_info
  rw [run_equalIn_array W 9997 _ _ Tryd.underlying27 hi, cellAnc, show List.range 2 = [0, 1] from rfl]
  simp only [Op.eqItems]
  go_simp
theorem cmp_run (s : Sup) (W : World) : (binOp .neq 33 (.agg (supC s).toArray) (.agg (supC s).toArray)).run Tryd.prog W = .ok (.bool false) W := by
  have h := eq_ancs s W
  unfold supC
  go_simp
theorem cmp_supG (x y : Nat) {d : Nat} (s : Sup) {k : Nat} {b : Bool} (hw : Region.wanted { dst := some d, op := .binOp .neq 33 (.tmp x) (.tmp y) 33, type := ty, pos := pos, after := af, guard := some (k, b) } (yielded ops a.tmps) = true) (hx : a.eval (.tmp x) = .agg (supC s).toArray) (hy : a.eval (.tmp y) = .agg (supC s).toArray)
    (h : wpList Tryd.prog ops Q rest (a.put (some d) (.bool false)) W) : wpList Tryd.prog ops Q ({ dst := some d, op := .binOp .neq 33 (.tmp x) (.tmp y) 33, type := ty, pos := pos, after := af, guard := some (k, b) } :: rest) a W := by
  have hr := cmp_run s W
  have hg : (eqGuard .neq 33 (.tmp x) (.tmp y) (.agg (supC s).toArray) (.agg (supC s).toArray)).run Tryd.prog W = .ok () W := by
    have hk : Tryd.prog.eqGuardType Tryd.prog.depth 33 = false := by kernel_rfl
    unfold eqGuard
    simp [hk]
  simp only [wpList]
  rw [if_pos hw]
  refine .inl ?_
  unfold Oper.wp execOp
  simp only [hx, hy, Sem.run_bind, Sem.run_pure, hg, hr, Result.andThen_ok]
  exact h
end
end Go.Proofs.YtijjecnmdhefbaaDoor.SP

namespace Go.Proofs.YtijjecnmdhefbaaDoor.RG
open Go.RowKit Go.Proofs.YtijjecnmdhefbaaDoorW.PrintWords Go.Proofs.YtijjecnmdhefbaaDoorW.PrintLast Go.Proofs.YtijjecnmdhefbaaDoorW.PrintMore Go.Proofs.YtijjecnmdhefbaaDoor.CD Go.Proofs.YtijjecnmdhefbaaDoor.BR Go.Proofs.YtijjecnmdhefbaaDoor.BP
set_option linter.unusedVariables false
set_option linter.unusedSimpArgs false
def two : List Ent := [(3, 9, 100, 0), (5, 10, 7, 300)]
def twoB : List Int := [2, 3, 9, 100, 0, 1, 10, 7, 172, 2]
theorem two_dir : dir two = .ok twoB := by kernel_rfl
theorem two_ents (w : World) : Ents (w.alloc (.cells #[.int .i64 3, .int .i64 9, .int .i64 100, .int .i64 0, .int .i64 5, .int .i64 10, .int .i64 7, .int .i64 300] 50)) (some ⟨w.heap.size, 0, none⟩) 2 two := by
  refine ⟨rfl, fun j hj => ⟨_, rfl, ?_⟩⟩
  have Hb := blk_new w (.cells #[.int .i64 3, .int .i64 9, .int .i64 100, .int .i64 0, .int .i64 5, .int .i64 10, .int .i64 7, .int .i64 300] 50)
  rcases (by omega : j = 0 ∨ j = 1) with rfl | rfl
  · exact ⟨blk_cell Hb 0, blk_cell Hb 1, blk_cell Hb 2, blk_cell Hb 3⟩
  · exact ⟨blk_cell Hb 4, blk_cell Hb 5, blk_cell Hb 6, blk_cell Hb 7⟩
theorem hcv24 {A : Option Addr} {c : Nat} {l : List Int} {W : World} (hr : ReadsInt W .u8 A l.length l) : (convert 41 9 (.slice A l.length c)).run Tryd.prog W = .ok (.string (strOfNums l)) W :=
  string_of_reads (c := c) (src := 41) Tryd.underlying41 Tryd.underlying5 Tryd.underlying9 hr
set_option maxHeartbeats 1000000 in
set_option maxRecDepth 100000 in
theorem works24 (w : World) : Calls Tryd.prog 10 #[] w fun e w' => e = .returned (.bool true) ∧ Below w.heap.size w w' := by
  have HE := Lib.hid two_ents
  have hdir := Lib.hid two_dir
  obtain ⟨L, hL⟩ : ∃ L, L = twoB := ⟨_, rfl⟩
  have ET : Hid (((strOfNums L).toList == ([2, 3, 9, 100, 0, 1, 10, 7, 172, 2] : List UInt8)) = true) := Lib.hid (by rw [hL]; decide +kernel)
  rw [← hL] at hdir
  clear hL
  go_enter Tryd.func10, Tryd.ntmps10
  go_wp2_with fail
  refine (put_region _ 2 _ two _ (Nat.le_refl _) (by omega) (HE.out _)).mono ?_
  rintro e w1 ⟨hd, hb⟩
  rw [hdir.out] at hd
  obtain ⟨v, rfl, ho⟩ := hd
  obtain ⟨A1, c1, rfl, hc1, hr1⟩ := ho.slice
  have HB1 := Lib.hid (below_step (below_alloc (Below.refl _ _) _) hb)
  have kz := hcv24 (c := c1) hr1
  have eT := ET.out
  clear hb ho hc1 hr1
  go_wp2
  go_ret
  exact ⟨rfl, HB1.out⟩
end Go.Proofs.YtijjecnmdhefbaaDoor.RG

namespace Go.Proofs.YtijjecnmdhefbaaDoor.SP
open Go.RowKit Go.Proofs.YtijjecnmdhefbaaDoorW.PrintWords Go.Proofs.YtijjecnmdhefbaaDoorW.PrintLast Go.Proofs.YtijjecnmdhefbaaDoorW.PrintMore Go.Proofs.YtijjecnmdhefbaaDoor.CD Go.Proofs.YtijjecnmdhefbaaDoor.BR Go.Proofs.YtijjecnmdhefbaaDoor.BP Go.Proofs.YtijjecnmdhefbaaDoor.RG
set_option linter.unusedVariables false
set_option linter.unusedSimpArgs false
set_option maxRecDepth 100000
theorem lims_ok : 0 ≤ lims.low ∧ lims.high ≤ 4611686018427387904 ∧ lims.now ≤ 4611686018427387904 ∧ lims.blob ≤ 4611686018427387904 := by unfold lims; decide
theorem gets_own {s : Sup} (hs : Ok lims s) {w w' : World} {e : Ending} (h : Gets (strOfNums (putS s)) w e w') : e = .returned (.tuple #[.agg (supC s).toArray, .int .i64 0]) ∧ Below w.heap.size w w' := by
  have hb : bytesOf (strOfNums (putS s)) = putS s := BS.bytesOf_str _ (putS_bytes s hs)
  obtain ⟨h1, h2⟩ := h
  rw [hb] at h1
  refine ⟨?_, h2⟩
  rcases h1 with ⟨s', hk, he, rfl⟩ | ⟨hn, _⟩
  · rw [getS_one lims_ok ⟨hk, he⟩ ⟨hs, rfl⟩]
  · exact absurd rfl (hn s hs)
theorem gets_turned {s : Sup} (hs : Ok lims s) (i : Nat) (v : Int) (hv : 0 ≤ v ∧ v < 256) (hi : i < (putS s).length) (hne : v ≠ (putS s)[i]) {w w' : World} {e : Ending} (h : Gets (strOfNums ((putS s).set i v)) w e w') :
    e = .returned (.tuple #[.agg (supC zeroS).toArray, .int .i64 21]) ∧ Below w.heap.size w w' := by
  have hbs : Bytes ((putS s).set i v) := fun x hx => by
    rcases List.mem_or_eq_of_mem_set hx with h | rfl
    · exact putS_bytes s hs x h
    · exact hv
  have hb : bytesOf (strOfNums ((putS s).set i v)) = (putS s).set i v := BS.bytesOf_str _ hbs
  obtain ⟨h1, h2⟩ := h
  rw [hb] at h1
  refine ⟨?_, h2⟩
  rcases h1 with ⟨s', hk, he, _⟩ | ⟨_, rfl⟩
  · exact absurd he (turned_none s s' hs hk i v hv hi hne)
  · rfl
theorem putS_str (s : Sup) : (strOfNums (putS s)).size = 512 := by rw [BS.size_str, putS_length]
theorem bw_cell (W : World) (t : ByteArray) (j : Nat) (hj : j < t.size) : (bw W t).cell? ⟨W.heap.size, j, none⟩ = some (.int .u8 (rd (bytesOf t) (j : Int))) ∧ (bw W t).frozen? ⟨W.heap.size, j, none⟩ = false := by
  have h := Lib.bytesWorld_at_new W 5 t
  have hc := Lib.bytesWorld_cell W 5 t j hj
  refine ⟨?_, ?_⟩
  · refine hc.trans ?_
    congr 2
    unfold rd bytesOf
    rw [Int.toNat_natCast, List.getD_eq_getElem?_getD, List.getD_eq_getElem?_getD, List.getElem?_map, List.getElem?_eq_getElem (by simpa using hj)]
    rfl
  · rw [cell_of_row _ _ j _ _ _ h] at hc
    have hlt := (Array.getElem?_eq_some_iff.1 hc).1
    have : ((bw W t).heap[W.heap.size]?) = some (.cells (Lib.bytesCells W 5 t) 5 ((Lib.bytesCells W 5 t).size, (Lib.bytesCells W 5 t).size + 1)) := h
    unfold World.frozen?
    rw [this]
    have hlt' : j < (Lib.bytesCells W 5 t).size := hlt
    simp only [Bool.and_eq_false_iff, decide_eq_false_iff_not]
    left
    omega
theorem reads_put {W : World} {r j n : Nat} {l : List Int} {x y : Int} (h : ReadsInt W .u8 (some ⟨r, 0, none⟩) n l) (hj : j < n) (hc : W.cell? ⟨r, j, none⟩ = some (.int .u8 y)) :
    ReadsInt (W.setCell ⟨r, j, none⟩ (.int .u8 x)) .u8 (some ⟨r, 0, none⟩) n (l.set j x) := by
  obtain ⟨h1, h2, h3⟩ := h
  refine ⟨by rw [List.length_set]; exact h1, h2, fun hn => ?_⟩
  obtain ⟨ad, e, hcell⟩ := h3 hn
  obtain rfl : (⟨r, 0, none⟩ : Addr) = ad := by injection e
  refine ⟨_, rfl, fun i hi => ?_⟩
  have ea : ∀ i, (⟨r, 0, none⟩ : Addr).add i = ⟨r, i, none⟩ := fun i => by rw [Addr.add_mid, Nat.zero_add]
  by_cases hij : i = j
  · subst hij
    rw [ea, World.cell?_setCell_same _ _ _ hc, List.getD_eq_getElem?_getD, List.getElem?_set_self (by omega)]
    rfl
  · have := hcell i hi
    rw [ea] at this ⊢
    rw [World.cell?_setCell_other _ _ _ _ (fun e => hij (by injection e with _ e; exact e.symm)), this, List.getD_eq_getElem?_getD, List.getD_eq_getElem?_getD, List.getElem?_set_ne (fun e => hij e.symm)]
theorem wrap_pow (e : Nat) (he : e < 8) : IntKind.u8.wrap ((2 : Int) ^ min e 8) = ((2 ^ e : Nat) : Int) := by
  match e, he with
  | 0, _ => decide
  | 1, _ => decide
  | 2, _ => decide
  | 3, _ => decide
  | 4, _ => decide
  | 5, _ => decide
  | 6, _ => decide
  | 7, _ => decide
theorem pow_lt (j : Nat) (hj : j < 8) : 2 ^ j < 256 := Nat.pow_lt_pow_right (n := 8) (by decide) hj
set_option maxHeartbeats 8000000 in
theorem superAgain_calls (s : Sup) (hs : s.seed < 18446744073709551616) (bit : Int) (hbit : -9223372036854775808 ≤ bit ∧ bit ≤ 9223372036854775807) (w : World) (ht : CK.Tab w) (h0 : 0 < w.heap.size) :
    Calls Tryd.prog 4 #[.agg (supC s).toArray, .int .i64 bit] w fun e w' => e = .returned (.bool true) ∧ Below w.heap.size w w' := by
  have HT := Lib.hid ht
  have H0 := Lib.hid h0
  have HS := Lib.hid hs
  have HW := Lib.hid (fun W => works24 W)
  clear ht h0 hs
  go_enter Tryd.func4, Tryd.ntmps4
  go_upto_region 1 with fail
  have HA := Lib.hid (SupAt.new w s)
  have HBa := Lib.hid (below_alloc (Below.refl w.heap.size w) (.cells (supC s).toArray 33))
  obtain ⟨W1, hW1⟩ : ∃ W, w.alloc (.cells (supC s).toArray 33) = W := ⟨_, rfl⟩
  obtain ⟨R, hR⟩ : ∃ R, w.heap.size = R := ⟨_, rfl⟩
  rw [hW1] at HA HBa
  rw [hR] at HA
  rw [hW1, hR]
  clear hW1
  have HPut := Lib.hid (putSuper_calls s W1 HS.out (HT.out.below HBa.out H0.out) (by have := HBa.out.size; have := H0.out; omega))
  have HRb := Lib.hid hR
  clear hR
  go_wp2_with (refine wpList_load_mid rfl 33 (.tmp 2) rfl R 0 rfl (supC s) _ (sup_range HA.out) Tryd.underlying33 rfl sup_info ?_)
  refine HPut.out.mono ?_; rintro e w2 ⟨he, hb2⟩
  have HB2 := Lib.hid (below_step HBa.out hb2)
  have HA2 := Lib.hid (HA.out.below hb2 HA.out.lt)
  clear hb2
  cases hq : superB s with
  | false =>
    rw [hq, if_neg (by decide)] at he
    subst he
    have hbb := BS.beq_same ByteArray.empty
    clear hq HPut
    go_wp2_with fail
    refine (HW.out _).mono ?_; rintro e w3 ⟨rfl, hb3⟩
    have HB3 := Lib.hid (below_step HB2.out hb3)
    clear hb3
    go_wp2
    go_ret
    exact ⟨rfl, HB3.out⟩
  | true =>
    rw [hq, if_pos rfl] at he
    subst he
    have HK := Lib.hid ((superB_iff s HS.out).1 hq)
    have HGet := Lib.hid (getSuper_calls (strOfNums (putS s)) w2 (HT.out.below HB2.out H0.out) (by have := HB2.out.size; have := H0.out; omega))
    clear hq HPut
    have hsz := putS_str s
    go_wp2_with fail
    refine HGet.out.mono ?_; rintro e w3 hget
    obtain ⟨rfl, hb3⟩ := gets_own HK.out hget
    have HB3 := Lib.hid (below_step HB2.out hb3)
    have HA3 := Lib.hid (HA2.out.below hb3 HA2.out.lt)
    clear hb3 hget HGet
    go_upto_region 5 with (refine store_sup 7 27 s (z := zeroS) (G := w3.heap.size) rfl rfl ?_ ?_; · exact SupAt.new w3 zeroS)
    have HY := Lib.hid ((SupAt.new w3 zeroS).all s)
    have HB4 := Lib.hid (belowg (below_alloc (Below.refl w3.heap.size w3) (.cells (supC zeroS).toArray 33)) (gsets (supC s) 0 _ (World.grownBy.refl _ (some w3.heap.size))) (by simp) (Nat.le_refl _))
    obtain ⟨W4, hW4⟩ : ∃ W, (w3.alloc (.cells (supC zeroS).toArray 33)).setCells w3.heap.size 0 (supC s) = W := ⟨_, rfl⟩
    rw [hW4] at HY HB4
    rw [show (w3.alloc (.cells #[.int .i64 0, .int .i64 0, .int .u64 0, .int .i64 0, .int .i64 0, .int .i64 0, .bool false, .int .i64 0, .int .i64 0, .int .i64 0, .bool false, .int .i64 0, .int .i64 0, .int .i64 0, .int .i64 0, .int .i64 0, .int .i64 0, .int .i64 0] 33)).setCells w3.heap.size 0 (supC s) = W4 from hW4]
    have HA4 := Lib.hid (HA3.out.below HB4.out HA3.out.lt)
    have HB5 := Lib.hid (below_step HB3.out HB4.out)
    obtain ⟨Y, hY⟩ : ∃ Y, w3.heap.size = Y := ⟨_, rfl⟩
    rw [hY] at HY
    rw [hY]
    clear hY hW4 HB4 HB3 HA3 HA2 HA HBa HB2
    go_upto_region 7 with (first | (refine load_supG 7 s (G := Y) (by rfl) rfl HY.out ?_) | (refine load_supG 2 s (G := R) (by rfl) rfl HA4.out ?_) | (refine cmp_supG 32 33 s (by rfl) rfl rfl ?_))
    go_upto_region 8 with fail
    have hm1 : -4096 < Int.tmod bit 4096 ∧ Int.tmod bit 4096 < 4096 := ⟨by have := Int.lt_tmod_of_pos bit (show (0 : Int) < 4096 by decide); omega, Int.tmod_lt_of_pos bit (by decide)⟩
    obtain ⟨m, hm⟩ : ∃ m, Int.tmod bit 4096 = m := ⟨_, rfl⟩
    rw [hm] at hm1
    rw [hm]
    obtain ⟨k, hk⟩ : ∃ k : Nat, (if m < 0 then m + 4096 else m) = (k : Int) := ⟨(if m < 0 then m + 4096 else m).toNat, by split <;> omega⟩
    have HK4 : Hid (k < 4096) := Lib.hid (by split at hk <;> omega)
    clear hm
    go_upto_if 44 with fail
    go_cut [1] (fun s1 wx => W4 = wx ∧ s1 = .int .i64 (k : Int))
    case first =>
      by_cases h : m < 0
      · have hd := decide_eq_true h
        have hw : m + 4096 = (k : Int) := by rw [if_pos h] at hk; exact hk
        go_wp2
        go_meet
        exact ⟨rfl, by first | rfl | rw [hw]⟩
      · have hd := decide_eq_false h
        have hw : m = (k : Int) := by rw [if_neg h] at hk; exact hk
        go_wp2
        go_meet
        exact ⟨rfl, by first | rfl | rw [hw]⟩
    case rest =>
      obtain ⟨rfl, rfl⟩ := hcut
      clear hk hm1
      have hbo : bytesOf (strOfNums (putS s)) = putS s := BS.bytesOf_str _ (putS_bytes s HK.out)
      have hcv := bytes_run (strOfNums (putS s)) W4
      obtain ⟨j, hj⟩ : ∃ j, k / 8 = j := ⟨_, rfl⟩
      obtain ⟨e, he⟩ : ∃ e, k % 8 = e := ⟨_, rfl⟩
      have HJ : Hid (j < 512) := Lib.hid (by have := HK4.out; omega)
      have HE : Hid (e < 8) := Lib.hid (by omega)
      have hq1 : Int.tdiv (k : Int) 8 = (j : Int) := by rw [Int.tdiv_eq_ediv_of_nonneg (by omega)]; omega
      have hr1 : Int.tmod (k : Int) 8 = (e : Int) := by rw [Int.tmod_eq_emod_of_nonneg (by omega)]; omega
      clear hj he
      have HB6 := Lib.hid (below_step HB5.out (bw_below W4 (strOfNums (putS s))))
      have HR6 : Hid (ReadsInt (bw W4 (strOfNums (putS s))) .u8 (some ⟨W4.heap.size, 0, none⟩) (putS s).length (putS s)) := Lib.hid (by have := bw_reads W4 (strOfNums (putS s)) (by omega); rwa [hbo] at this)
      obtain ⟨cv, fv⟩ := bw_cell W4 (strOfNums (putS s)) j (by rw [hsz]; exact HJ.out)
      rw [hbo] at cv
      have hrb := CK.rd_bytes (putS s) (putS_bytes s HK.out) j (by rw [putS_length]; exact HJ.out)
      obtain ⟨v, hv⟩ : ∃ v : Nat, rd (putS s) (j : Int) = (v : Int) := ⟨(rd (putS s) (j : Int)).toNat, by omega⟩
      rw [hv] at cv hrb
      have HV := Lib.hid hv
      have HV2 : Hid (v < 256) := Lib.hid (by omega)
      have hsh : IntKind.u8.wrap ((2 : Int) ^ min e 8) = ((2 ^ e : Nat) : Int) := wrap_pow e HE.out
      have hwj : wrap64 (j : Int) = (j : Int) := by have := HJ.out; unfold wrap64; omega
      have hp2 := pow_lt e HE.out
      have HNE := Lib.hid (xor_bit v e)
      obtain ⟨q, hq⟩ : ∃ q, 2 ^ e = q := ⟨_, rfl⟩
      rw [hq] at hsh hp2 HNE
      have hx : bits .xor .u8 (v : Int) (q : Int) = ((v ^^^ q : Nat) : Int) := u8_xor_nat v q HV2.out hp2
      have HU : Hid (v ^^^ q < 256) := Lib.hid (Nat.xor_lt_two_pow (n := 8) HV2.out hp2)
      obtain ⟨u, hu⟩ : ∃ u, v ^^^ q = u := ⟨_, rfl⟩
      rw [hu] at hx HU HNE
      clear hq hu hv hrb hp2
      have p1 : (0 ≤ (j : Int)) = True := eq_true (by omega)
      have p2 : ((j : Int) < 512) = True := eq_true (by have := HJ.out; omega)
      have p3 : (0 ≤ (e : Int)) = True := eq_true (by omega)
      have p4 : ((e : Int) < 0) = False := eq_false (by omega)
      obtain ⟨W5, hW5⟩ : ∃ W, bw W4 (strOfNums (putS s)) = W := ⟨_, rfl⟩
      obtain ⟨r, hr⟩ : ∃ r, W4.heap.size = r := ⟨_, rfl⟩
      rw [hW5, hr] at HR6 cv fv hcv
      rw [hW5] at HB6
      go_upto_region 11 with fail
      clear hcv
      refine start_ (n := 11) (S := fun w' => w'.cell? ⟨r, j, none⟩ = some (.int .u8 (v : Int))) (ds := [10]) #[false, false, false, false, false, false, false, false, false, false, false] (by kernel_rfl) rfl rfl (cv) (fun hHeld => ?_)
      refine pure_ (i := 0) (N := some 49) (v := ?_) (a' := ?_) #[true, false, false, false, false, false, false, false, false, false, false] rfl rfl (by kernel_rfl) (fun _ _ _ h => h) (Or.inl ⟨by rfl, ?_⟩) ?_ ?_
      rotate_left
      · intro w'
        go_simp
        with_reducible rfl
      rotate_left
      · simp only [Act.put, List.setIfInBounds_toArray, List.set_cons_zero, List.set_cons_succ, i64_w, i32_w]
        rfl
      refine pure_ (i := 1) (N := some 50) (v := ?_) (a' := ?_) #[true, true, false, false, false, false, false, false, false, false, false] rfl rfl (by kernel_rfl) (fun _ _ _ h => h) (Or.inl ⟨by rfl, ?_⟩) ?_ ?_
      rotate_left
      · intro w'
        go_simp
        with_reducible rfl
      rotate_left
      · simp only [Act.put, List.setIfInBounds_toArray, List.set_cons_zero, List.set_cons_succ, i64_w, i32_w]
        rfl
      refine pure_ (i := 2) (N := some 51) (v := ?_) (a' := ?_) #[true, true, true, false, false, false, false, false, false, false, false] rfl rfl (by kernel_rfl) (fun _ _ _ h => h) (Or.inl ⟨by rfl, ?_⟩) ?_ ?_
      rotate_left
      · intro w'
        go_simp
        with_reducible rfl
      rotate_left
      · simp only [Act.put, List.setIfInBounds_toArray, List.set_cons_zero, List.set_cons_succ, i64_w, i32_w]
        rfl
      refine pure_ (i := 3) (N := some 52) (v := ?_) (a' := ?_) #[true, true, true, true, false, false, false, false, false, false, false] rfl rfl (by kernel_rfl) (fun _ _ _ h => h) (Or.inl ⟨by rfl, ?_⟩) ?_ ?_
      rotate_left
      · intro w'
        go_simp
        with_reducible rfl
      rotate_left
      · simp only [Act.put, List.setIfInBounds_toArray, List.set_cons_zero, List.set_cons_succ, i64_w, i32_w]
        rfl
      refine pure_ (i := 5) (N := some 54) (v := ?_) (a' := ?_) #[true, true, true, true, false, true, false, false, false, false, false] rfl rfl (by kernel_rfl) (fun _ _ _ h => h) (Or.inl ⟨by rfl, ?_⟩) ?_ ?_
      rotate_left
      · intro w'
        go_simp
        with_reducible rfl
      rotate_left
      · simp only [Act.put, List.setIfInBounds_toArray, List.set_cons_zero, List.set_cons_succ, i64_w, i32_w]
        rfl
      refine pure_ (i := 6) (N := some 55) (v := ?_) (a' := ?_) #[true, true, true, true, false, true, true, false, false, false, false] rfl rfl (by kernel_rfl) (fun _ _ _ h => h) (Or.inl ⟨by rfl, ?_⟩) ?_ ?_
      rotate_left
      · intro w'
        go_simp
        with_reducible rfl
      rotate_left
      · simp only [Act.put, List.setIfInBounds_toArray, List.set_cons_zero, List.set_cons_succ, i64_w, i32_w]
        rfl
      refine pure_ (i := 7) (N := some 56) (v := ?_) (a' := ?_) #[true, true, true, true, false, true, true, true, false, false, false] rfl rfl (by kernel_rfl) (fun _ _ _ h => h) (Or.inl ⟨by rfl, ?_⟩) ?_ ?_
      rotate_left
      · intro w'
        go_simp
        with_reducible rfl
      rotate_left
      · simp only [Act.put, List.setIfInBounds_toArray, List.set_cons_zero, List.set_cons_succ, i64_w, i32_w]
        rfl
      refine take_ (i := 4) (N := some 53) (v := ?_) (a' := ?_) #[true, true, true, true, true, true, true, true, false, false, false] rfl rfl (by kernel_rfl) (fun _ _ _ h => h) (Or.inl ⟨by rfl, ?_⟩) hHeld ?_ ?_
      rotate_left
      · intro w' s0
        go_simp
        with_reducible rfl
      rotate_left
      · simp only [Act.put, List.setIfInBounds_toArray, List.set_cons_zero, List.set_cons_succ, i64_w, i32_w]
        rfl
      refine pure_ (i := 8) (N := some 57) (v := ?_) (a' := ?_) #[true, true, true, true, true, true, true, true, true, false, false] rfl rfl (by kernel_rfl) (fun _ _ _ h => h) (Or.inl ⟨by rfl, ?_⟩) ?_ ?_
      rotate_left
      · intro w'
        go_simp
        with_reducible rfl
      rotate_left
      · simp only [Act.put, List.setIfInBounds_toArray, List.set_cons_zero, List.set_cons_succ, i64_w, i32_w]
        rfl
      refine pure_ (i := 9) (N := some 58) (v := ?_) (a' := ?_) #[true, true, true, true, true, true, true, true, true, true, false] rfl rfl (by kernel_rfl) (fun _ _ _ h => h) (Or.inl ⟨by rfl, ?_⟩) ?_ ?_
      rotate_left
      · intro w'
        go_simp
        with_reducible rfl
      rotate_left
      · simp only [Act.put, List.setIfInBounds_toArray, List.set_cons_zero, List.set_cons_succ, i64_w, i32_w]
        rfl
      refine last_ (i := 10) (N := none) #[true, true, true, true, true, true, true, true, true, true, true] rfl rfl (by kernel_rfl) (by decide) (fun K hK => ?_)
      refine skip_ (w1 := ?_) (by rfl) rfl ?_ ?_
      rotate_left
      · go_simp
        rfl
      refine hK.out _ _ ?_
      clear hK K
      refine done_ (by kernel_rfl) ?_
      have HR7 := Lib.hid (reads_put (x := (u : Int)) HR6.out (by rw [putS_length]; exact HJ.out) cv)
      have HB7 : Hid (Below w.heap.size w (W5.setCell ⟨r, j, none⟩ (.int .u8 (u : Int)))) := Lib.hid (belowg HB6.out (gset (World.grownBy.refl W5 _) j _) HB6.out.size (by rw [← hr]; exact HB5.out.size))
      obtain ⟨W6, hW6⟩ : ∃ W, W5.setCell ⟨r, j, none⟩ (.int .u8 (u : Int)) = W := ⟨_, rfl⟩
      rw [hW6] at HR7 HB7
      rw [hW6]
      obtain ⟨W7, hW7⟩ : ∃ W, W6.drew = W := ⟨_, rfl⟩
      have HB8 : Hid (Below w.heap.size w W7) := Lib.hid (by rw [← hW7]; exact below_drew HB7.out)
      have HR8 : ReadsInt W7 .u8 (some ⟨r, 0, none⟩) ((putS s).set j (u : Int)).length ((putS s).set j (u : Int)) := by rw [← hW7, List.length_set]; exact HR7.out.below (below_drew (Below.refl _ _))
      have hcs := fun c => conv_str (c := c) HR8
      rw [show ((putS s).set j (u : Int)).length = 512 by rw [List.length_set, putS_length]] at hcs
      rw [hW7]
      have HNV : Hid ((u : Int) ≠ (putS s)[j]'(by rw [putS_length]; exact HJ.out)) := Lib.hid (by
        have k1 := HV.out
        have k2 := HNE.out
        unfold rd at k1
        rw [Int.toNat_natCast, List.getD_eq_getElem?_getD, List.getElem?_eq_getElem (by rw [putS_length]; exact HJ.out)] at k1
        have k3 : (putS s)[j]'(by rw [putS_length]; exact HJ.out) = (v : Int) := k1
        rw [k3]
        omega)
      have HGet := Lib.hid (getSuper_calls (strOfNums ((putS s).set j (u : Int))) W7 (HT.out.below HB8.out H0.out) (by have := HB8.out.size; have := H0.out; omega))
      clear hW6 hW7 HR8 HR7 HB7 hHeld cv fv hx hsh hwj hq1 hr1 p1 p2 p3 p4 hbo hsz hbit
      go_wp2_with fail
      refine HGet.out.mono ?_; rintro e w9 hget
      obtain ⟨rfl, hb9⟩ := gets_turned HK.out j (u : Int) (by have := HU.out; omega) (by rw [putS_length]; exact HJ.out) HNV.out hget
      have HB9 := Lib.hid (below_step HB8.out hb9)
      clear hb9 hget HGet hcs
      go_upto_region 13 with (refine store_sup 10 63 zeroS (z := zeroS) (G := w9.heap.size) rfl rfl ?_ ?_; · exact SupAt.new w9 zeroS)
      have HB10 := Lib.hid (below_step HB9.out (belowg (below_alloc (Below.refl w9.heap.size w9) (.cells (supC zeroS).toArray 33)) (gsets (supC zeroS) 0 _ (World.grownBy.refl _ (some w9.heap.size))) (by simp) (Nat.le_refl _)))
      obtain ⟨W10, hW10⟩ : ∃ W, (w9.alloc (.cells (supC zeroS).toArray 33)).setCells w9.heap.size 0 (supC zeroS) = W := ⟨_, rfl⟩
      rw [hW10] at HB10
      rw [show (w9.alloc (.cells #[.int .i64 0, .int .i64 0, .int .u64 0, .int .i64 0, .int .i64 0, .int .i64 0, .bool false, .int .i64 0, .int .i64 0, .int .i64 0, .bool false, .int .i64 0, .int .i64 0, .int .i64 0, .int .i64 0, .int .i64 0, .int .i64 0, .int .i64 0] 33)).setCells w9.heap.size 0 (supC zeroS) = W10 from hW10]
      clear hW10
      go_wp2_with fail
      refine (HW.out _).mono ?_; rintro e w11 ⟨rfl, hb11⟩
      have HB11 := Lib.hid (below_step HB10.out hb11)
      clear hb11
      go_wp2
      go_ret
      exact ⟨rfl, HB11.out⟩
end Go.Proofs.YtijjecnmdhefbaaDoor.SP
