/- The own texts that the statement RegionKnown leans on: SupOps, RWorks, SupAgain, RGetA, RGet, RKnown. -/
import Derived.Test.YtijjecnmdhefbaaDoorARegionKnown
import Derived.ChangeKeysEq
import Derived.Outline
import Derived.Lib.ConvBytes
import Derived.Deep.DeepCutAuto
import Derived.Test.YtijjecnmdhefbaaDoorPRegionKnownx2
import Derived.Test.YtijjecnmdhefbaaDoorPRegionKnownx1
import Derived.Test.YtijjecnmdhefbaaDoorPRegionKnownx3
namespace Go.Proofs.YtijjecnmdhefbaaDoor.SP
open Go.RowKit Go.Proofs.YtijjecnmdhefbaaDoorW.PrintWords Go.Proofs.YtijjecnmdhefbaaDoorW.PrintLast Go.Proofs.YtijjecnmdhefbaaDoorW.PrintMore Go.Proofs.YtijjecnmdhefbaaDoor.BR
set_option linter.unusedVariables false
set_option linter.unusedSimpArgs false
set_option maxRecDepth 100000
section
variable {ops : Array Oper} {rest : List Oper} {Q : Exit → Act → World → Prop} {a : Act} {W : World} {ty : TypeId} {pos : String} {af : Array Edge} {g : Option (Nat × Bool)}
theorem store_sup (x y : Nat) (s : Sup) {z : Sup} {G : Nat} (hx : a.eval (.tmp x) = .pointer (some ⟨G, 0, none⟩)) (hy : a.eval (.tmp y) = .agg (supC s).toArray) (hS : SupAt W G z)
    (h : wpList Tryd.prog ops Q rest (a.put none undef) (W.setCells G 0 (supC s))) : wpList Tryd.prog ops Q ({ dst := none, op := .store 33 (.tmp x) (.tmp y), type := ty, pos := pos, after := af, guard := none } :: rest) a W :=
  wpList_store_mid rfl 33 (.tmp x) (.tmp y) rfl G 0 (supC s).toArray hx hy hS.there sup_info (sup_one s) h
end
end Go.Proofs.YtijjecnmdhefbaaDoor.SP

namespace Go.Proofs.YtijjecnmdhefbaaDoor.RG
open Go.RowKit Go.Proofs.YtijjecnmdhefbaaDoorW.PrintWords Go.Proofs.YtijjecnmdhefbaaDoorW.PrintLast Go.Proofs.YtijjecnmdhefbaaDoorW.PrintMore Go.Proofs.YtijjecnmdhefbaaDoor.CD Go.Proofs.YtijjecnmdhefbaaDoor.BR Go.Proofs.YtijjecnmdhefbaaDoor.BP
set_option linter.unusedVariables false
set_option linter.unusedSimpArgs false
def two : List Ent := [(3, 9, 100, 0), (5, 10, 7, 300)]
def twoB : List Int := [2, 3, 9, 100, 0, 1, 10, 7, 172, 2]
theorem two_dir : dir two = .ok twoB := by kernel_rfl
theorem two_ents (w : World) : Ents (w.alloc (.cells #[.int .i64 3, .int .i64 9, .int .i64 100, .int .i64 0, .int .i64 5, .int .i64 10, .int .i64 7, .int .i64 300] 50)) (some ⟨w.heap.size, 0, none⟩) 2 two := by
  refine ⟨rfl, fun j hj => ⟨_, rfl, ?_⟩⟩
  have Hb := blk_new w (.cells #[.int .i64 3, .int .i64 9, .int .i64 100, .int .i64 0, .int .i64 5, .int .i64 10, .int .i64 7, .int .i64 300] 50)
  rcases (by omega : j = 0 ∨ j = 1) with rfl | rfl
  · exact ⟨blk_cell Hb 0, blk_cell Hb 1, blk_cell Hb 2, blk_cell Hb 3⟩
  · exact ⟨blk_cell Hb 4, blk_cell Hb 5, blk_cell Hb 6, blk_cell Hb 7⟩
theorem hcv24 {A : Option Addr} {c : Nat} {l : List Int} {W : World} (hr : ReadsInt W .u8 A l.length l) : (convert 41 9 (.slice A l.length c)).run Tryd.prog W = .ok (.string (strOfNums l)) W :=
  string_of_reads (c := c) (src := 41) Tryd.underlying41 Tryd.underlying5 Tryd.underlying9 hr
set_option maxHeartbeats 1000000 in
set_option maxRecDepth 100000 in
theorem works24 (w : World) : Calls Tryd.prog 10 #[] w fun e w' => e = .returned (.bool true) ∧ Below w.heap.size w w' := by
  have HE := Lib.hid two_ents
  have hdir := Lib.hid two_dir
  obtain ⟨L, hL⟩ : ∃ L, L = twoB := ⟨_, rfl⟩
  have ET : Hid (((strOfNums L).toList == ([2, 3, 9, 100, 0, 1, 10, 7, 172, 2] : List UInt8)) = true) := Lib.hid (by rw [hL]; decide +kernel)
  rw [← hL] at hdir
  clear hL
  go_enter Tryd.func10, Tryd.ntmps10
  go_wp2_with fail
  refine (put_region _ 2 _ two _ (Nat.le_refl _) (by omega) (HE.out _)).mono ?_
  rintro e w1 ⟨hd, hb⟩
  rw [hdir.out] at hd
  obtain ⟨v, rfl, ho⟩ := hd
  obtain ⟨A1, c1, rfl, hc1, hr1⟩ := ho.slice
  have HB1 := Lib.hid (below_step (below_alloc (Below.refl _ _) _) hb)
  have kz := hcv24 (c := c1) hr1
  have eT := ET.out
  clear hb ho hc1 hr1
  go_wp2
  go_ret
  exact ⟨rfl, HB1.out⟩
end Go.Proofs.YtijjecnmdhefbaaDoor.RG

namespace Go.Proofs.YtijjecnmdhefbaaDoor.SP
open Go.RowKit Go.Proofs.YtijjecnmdhefbaaDoorW.PrintWords Go.Proofs.YtijjecnmdhefbaaDoorW.PrintLast Go.Proofs.YtijjecnmdhefbaaDoorW.PrintMore Go.Proofs.YtijjecnmdhefbaaDoor.CD Go.Proofs.YtijjecnmdhefbaaDoor.BR Go.Proofs.YtijjecnmdhefbaaDoor.BP Go.Proofs.YtijjecnmdhefbaaDoor.RG
set_option linter.unusedVariables false
set_option linter.unusedSimpArgs false
set_option maxRecDepth 100000
theorem putS_str (s : Sup) : (strOfNums (putS s)).size = 512 := by rw [BS.size_str, putS_length]
end Go.Proofs.YtijjecnmdhefbaaDoor.SP

namespace Go.Proofs.YtijjecnmdhefbaaDoor.RG
open Go.RowKit Go.Proofs.YtijjecnmdhefbaaDoorW.PrintWords Go.Proofs.YtijjecnmdhefbaaDoorW.PrintLast Go.Proofs.YtijjecnmdhefbaaDoorW.PrintMore Go.Proofs.YtijjecnmdhefbaaDoor.CD Go.Proofs.YtijjecnmdhefbaaDoor.BR Go.Proofs.YtijjecnmdhefbaaDoor.BP
set_option linter.unusedVariables false
set_option linter.unusedSimpArgs false
theorem within_calls (x a b : Int) (w : World) : Calls Tryd.prog 38 #[.int .i64 x, .int .i64 a, .int .i64 b] w fun e w' => e = .returned (.bool (decide (a ≤ x ∧ x ≤ b))) ∧ Drawn0 w w' := by
  refine PRegionKnown.region_within.calls x a b _ w ?_
  unfold PRegionKnown.region_within.f
  by_cases h : a ≤ x
  · rw [if_pos h]; simp [h]
  · rw [if_neg h]; simp [h]
theorem equal_calls (A B : Option Addr) (c d : Nat) (l m : List Int) (w : World) (hl : ReadsInt w .u8 A l.length l) (hc : l.length ≤ c) (hm : ReadsInt w .u8 B m.length m) (hd : m.length ≤ d) (hb1 : Bytes l) (hb2 : Bytes m) :
    Calls Tryd.prog 42 #[.slice A l.length c, .slice B m.length d] w fun e w' => e = .returned (.bool (decide (l = m))) ∧ Drawn0 w w' := by
  refine PRegionKnown.bytes_Equal.calls A c l B d m _ w (Kd.C_of_reads (d := (0 : Int)) (h1 := fun _ => rfl) hl) hc (Kd.C_of_reads (d := (0 : Int)) (h1 := fun _ => rfl) hm) hd ?_
  unfold PRegionKnown.bytes_Equal.f
  by_cases h : l = m
  · rw [h]; simp
  · rw [decide_eq_false h, BS.beq_not (fun e => h (BS.str_inj hb1 hb2 e))]
theorem dirF_err : ∀ (l : List Ent) (was : Int) (k : Int), dirF was l = .error k → k = 2 ∨ k = 6
  | [], _, _, h => by simp [dirF] at h
  | x :: l, was, k, h => by
    unfold dirF at h
    split at h
    · injection h with h; omega
    · split at h
      · injection h with h; omega
      · cases hd : dirF x.1 l with
        | error e => rw [hd] at h; simp only [Except.map] at h; injection h with h; subst h; exact dirF_err l x.1 _ hd
        | ok b => rw [hd] at h; simp [Except.map] at h
theorem dir_err (l : List Ent) (k : Int) (h : dir l = .error k) : k = 2 ∨ k = 6 := by
  unfold dir at h
  cases hd : dirF (-1) l with
  | error e => rw [hd] at h; simp only [Except.map] at h; injection h with h; subst h; exact dirF_err l _ _ hd
  | ok b => rw [hd] at h; simp [Except.map] at h
theorem dirF_bytes : ∀ (l : List Ent) (was : Int) (b : List Int), -1 ≤ was → dirF was l = .ok b → Bytes b
  | [], _, b, _, h => by simp [dirF] at h; subst h; exact Bytes.nil
  | x :: l, was, b, hw, h => by
    unfold dirF at h
    split at h
    · cases h
    · rename_i h1
      split at h
      · cases h
      · rename_i h2
        cases hd : dirF x.1 l with
        | error e => rw [hd] at h; cases h
        | ok c =>
          rw [hd] at h
          injection h with h
          have hm : eMay x = true := by simpa using h1
          unfold eMay at hm
          have hm := of_decide_eq_true hm
          rw [← h]
          refine Bytes.append ?_ (dirF_bytes l x.1 c (by omega) hd)
          unfold nums4 eNums
          simp only [List.flatMap_cons, List.flatMap_nil, List.append_nil]
          exact (num_bytes _ (by omega)).append ((num_bytes _ (by omega)).append ((num_bytes _ (by omega)).append (num_bytes _ (by omega))))
theorem dir_bytes (l : List Ent) (b : List Int) (hl : l.length < 18446744073709551616) (h : dir l = .ok b) : Bytes b := by
  unfold dir at h
  cases hd : dirF (-1) l with
  | error e => rw [hd] at h; cases h
  | ok c => rw [hd] at h; injection h with h; rw [← h]; exact (num_bytes _ hl).append (dirF_bytes l _ _ (by omega) hd)
def Got (t : Nat) (o : Option (List Ent)) (w : World) (e : Ending) (w' : World) : Prop :=
  (match o with
    | some l => ∃ v, e = .returned (.tuple #[v, .int .i64 0]) ∧ Kd.R kE t w' w.heap.size (fun _ => True) v l
    | none => e = .returned (.tuple #[.slice none 0 0, .int .i64 4])) ∧ Below w.heap.size w w'
end Go.Proofs.YtijjecnmdhefbaaDoor.RG

namespace Go.Proofs.YtijjecnmdhefbaaDoor.RG
open Go.RowKit Go.Proofs.YtijjecnmdhefbaaDoorW.PrintWords Go.Proofs.YtijjecnmdhefbaaDoorW.PrintLast Go.Proofs.YtijjecnmdhefbaaDoorW.PrintMore Go.Proofs.YtijjecnmdhefbaaDoor.CD Go.Proofs.YtijjecnmdhefbaaDoor.BR Go.Proofs.YtijjecnmdhefbaaDoor.BP
set_option linter.unusedVariables false
set_option linter.unusedSimpArgs false
theorem infoE : (Tryd.prog.info? 50).map (fun i => (i.zero, i.size, i.bytes)) = some (some (.agg #[.int .i64 0, .int .i64 0, .int .i64 0, .int .i64 0]), 4, 32) := by kernel_rfl
set_option maxHeartbeats 4000000 in
set_option maxRecDepth 100000 in
theorem get_region (A : Option Addr) (c : Nat) (X : List Int) (w : World) (hr : ReadsInt w .u8 A X.length X) (hc : X.length ≤ c) (hb : Bytes X) (hs : X.length ≤ 140737488355328) :
    Calls Tryd.prog 14 #[.slice A X.length c] w fun e w' => Got 50 (getDir X) w e w' := by
  have HR0 := Lib.hid hr
  have HN := Lib.hid (BQ.new_calls A c X w hr hc hb hs)
  have HC := Lib.hid hc
  have HB := Lib.hid hb
  obtain ⟨O, hO⟩ : ∃ O, O = getDir X := ⟨_, rfl⟩
  rw [← hO]
  obtain ⟨G, hG⟩ : ∃ G, G = getD0 X := ⟨_, rfl⟩
  have HO := Lib.hid (show O = fin X G by rw [hO, hG]; rfl)
  obtain ⟨⟨nn, s1⟩, hn⟩ : ∃ q, rNext (X, false) = q := ⟨_, rfl⟩
  have hnr := rNext_range (X, false) hb
  rw [hn] at hnr
  simp only at hnr
  have HG := Lib.hid (show G = getF 1025 nn s1 (-1) [] by rw [hG]; unfold getD0; rw [hn])
  have Hn := Lib.hid hn
  clear hr hc hb hO hG hn
  go_enter Tryd.func14, Tryd.ntmps14
  go_wp2_with fail
  refine HN.out.mono ?_; rintro e w1 ⟨g, rfl, hg, hr1, hb1⟩
  have hnx0 : Nx w (w1.alloc (.cells #[.pointer (some ⟨g, 0, none⟩)] 71)) w1.heap.size g (X, false) := ⟨hr1.below (below_alloc (Below.refl _ _) _), blk_new _ _, below_alloc hb1 _, hg, hr1.lt⟩
  have HX0 := Lib.hid hnx0
  clear hg hr1 hb1 hnx0
  go_wp2_with fail
  refine (nextGet_calls w w1.heap.size g (X, false) _ HX0.out).mono ?_
  rw [Hn.out]
  rintro e w2 ⟨rfl, hx2, hg2⟩
  have HX2 := Lib.hid hx2
  clear hx2 hg2
  go_wp2_with fail
  go_loopw [6, 7] (fun lv av W => ∃ (acc : List Ent) (at_ : Int) (s : St), av = .int .i64 at_ ∧ (-1 ≤ at_ ∧ at_ ≤ 1023) ∧ (acc.length : Int) ≤ at_ + 1 ∧ Aside0 (Nx w W w1.heap.size g s) ∧ Aside0 (Kd.R kE 50 W w.heap.size (fun k => w1.heap.size < k) lv acc) ∧ Aside0 (G = getF (1025 - acc.length) nn s at_ acc)) (fun _ av _ => (2000 - intOf av).toNat)
  case atStart => exact ⟨[], -1, s1, rfl, by omega, by simp, ⟨HX2.out⟩, ⟨Kd.R_nil _ _ _ _ _⟩, ⟨HG.out⟩⟩
  case round =>
    obtain ⟨acc, at_, s, rfl, hat, hacc, ⟨hx⟩, ⟨hR⟩, ⟨hG⟩⟩ := hrel
    have HX := Lib.hid hx
    obtain ⟨A6, c6, rfl, hc6, hC6⟩ := Kd.R_reads hR
    have HR := Lib.hid hR
    have HE := Lib.hid (ents_of_C hC6)
    have HGj := Lib.hid hG
    have hl63 : acc.length ≤ 1024 := by omega
    obtain ⟨f, hf⟩ : ∃ f, 1025 - acc.length = f + 1 := ⟨1024 - acc.length, by omega⟩
    have Hf := Lib.hid hf
    clear hx hR hC6 hG hf
    by_cases hgo : 0 < nn ∧ (acc.length : Int) < nn ∧ s.2 = false
    · obtain ⟨g1, g2, g3⟩ := hgo
      have hd1 : decide ((0 : Int) < nn) = true := decide_eq_true g1
      have hd2 : decide ((acc.length : Int) < nn) = true := decide_eq_true g2
      have Hc1 := Lib.hid (show (acc.length : Int) < nn ∧ s.2 = false from ⟨g2, g3⟩)
      have HErr := Lib.hid (BQ.err_calls g s.1 s.2 wr HX.out.rdr)
      rw [g3] at HErr
      have hcc := blk_cell HX.out.cell 0
      simp only [List.getElem?_toArray, List.getElem?_cons_succ, List.getElem?_cons_zero] at hcc
      obtain ⟨⟨by_, sb⟩, hby⟩ : ∃ q, rNext s = q := ⟨_, rfl⟩
      have hbr := rNext_range s HX.out.rdr.bytes
      rw [hby] at hbr
      simp only at hbr
      have Hby := Lib.hid hby
      clear g1 g2 g3 hby
      go_wp2_with fail
      refine HErr.out.mono ?_; rintro e w3 ⟨rfl, ⟨n3, rfl⟩⟩
      clear hcc
      have HX3 := Lib.hid (HX.out.under (pw_below_drewN (Below.refl _ _) n3))
      go_wp2_with fail
      refine (nextGet_calls w w1.heap.size g s _ HX3.out).mono ?_
      rw [Hby.out]
      rintro e w4 ⟨rfl, hx4, hg4⟩
      have HX4 := Lib.hid hx4
      have HG4 := Lib.hid (show wr.grownBy w4 (some g) from gtrans (gdrewN (World.grownBy.refl _ _) n3) hg4)
      clear hx4 hg4
      go_wp2_with fail
      refine (within_calls by_ 0 1024 _).mono ?_; rintro e w5 ⟨rfl, ⟨n5, rfl⟩⟩
      by_cases hbw : 0 ≤ by_ ∧ by_ ≤ 1024
      · have hd3 : decide (0 ≤ by_ ∧ by_ ≤ 1024) = true := decide_eq_true hbw
        have HX5 := Lib.hid (HX4.out.under (pw_below_drewN (Below.refl _ _) n5))
        obtain ⟨⟨hd, sh⟩, hhd⟩ : ∃ q, rNext sb = q := ⟨_, rfl⟩
        obtain ⟨⟨sz, ss⟩, hsz⟩ : ∃ q, rNext sh = q := ⟨_, rfl⟩
        obtain ⟨⟨le, sl⟩, hle⟩ : ∃ q, rNext ss = q := ⟨_, rfl⟩
        have hre : rEntry at_ s = (by_, (at_ + (1 + by_), hd, sz, le), sl) := by unfold rEntry; rw [Hby.out]; simp only; rw [hhd]; simp only; rw [hsz]; simp only; rw [hle]
        have Hre := Lib.hid hre
        have Hhd := Lib.hid hhd
        have Hsz := Lib.hid hsz
        have Hle := Lib.hid hle
        clear hre hhd hsz hle
        go_wp2_with fail
        refine (nextGet_calls w w1.heap.size g sb _ HX5.out).mono ?_
        rw [Hhd.out]
        rintro e w6 ⟨rfl, hx6, hg6⟩
        have HX6 := Lib.hid hx6
        have HG6 := Lib.hid (show wr.grownBy w6 (some g) from gtrans (gdrewN HG4.out n5) hg6)
        clear hx6 hg6
        go_wp2_with fail
        refine (nextGet_calls w w1.heap.size g sh _ HX6.out).mono ?_
        rw [Hsz.out]
        rintro e w7 ⟨rfl, hx7, hg7⟩
        have HX7 := Lib.hid (hx7.under (below_alloc (Below.refl _ _) (.cells #[.int .i64 (at_ + (1 + by_)), .int .i64 hd, .int .i64 sz, .int .i64 0] 50)))
        have HG7 := Lib.hid (show wr.grownBy (w7.alloc (.cells #[.int .i64 (at_ + (1 + by_)), .int .i64 hd, .int .i64 sz, .int .i64 0] 50)) (some g) from gbelow (gtrans HG6.out hg7) (below_alloc (Below.refl _ _) _))
        have HB7 := Lib.hid (blk_new w7 (.cells #[.int .i64 (at_ + (1 + by_)), .int .i64 hd, .int .i64 sz, .int .i64 0] 50))
        have HC7 := Lib.hid hx7.lt
        have HS7 := Lib.hid (show wr.heap.size ≤ w7.heap.size from (gtrans HG6.out hg7).size)
        clear hx7 hg7
        go_wp2_with fail
        refine (nextGet_calls w w1.heap.size g ss _ HX7.out).mono ?_
        rw [Hle.out]
        rintro e w8 ⟨rfl, hx8, hg8⟩
        have hb8 := blk_grown HB7.out hg8 (fun e => by injection e with e; have := HC7.out; have := HX.out.g2; omega)
        have f3 := blk_frozen hb8 3
        have c3 := blk_cell hb8 3
        simp only [List.getElem?_toArray, List.getElem?_cons_succ, List.getElem?_cons_zero] at c3
        have HB9 := Lib.hid (show (w8.setCell ⟨w7.heap.size, 3, none⟩ (.int .i64 le)).heap[w7.heap.size]? = some (.cells #[.int .i64 (at_ + (1 + by_)), .int .i64 hd, .int .i64 sz, .int .i64 le] 50 (0, 0)) from blk_put hb8 3 (.int .i64 le) rfl)
        have HX9 := Lib.hid (hx8.far (gset (World.grownBy.refl w8 (some w7.heap.size)) 3 (.int .i64 le)) (fun k e => by injection e with e; have := HC7.out; omega))
        have HK := Lib.hid (fun k (h1 : w1.heap.size < k) (h2 : k < wr.heap.size) => (Below.heap_setCell w8 ⟨w7.heap.size, 3, none⟩ (.int .i64 le) k (fun e => by have := HG6.out.size; have := (World.grownBy.refl w6 none).size; have e : k = w7.heap.size := e; have h7 : wr.heap.size ≤ w7.heap.size := HS7.out; omega)).trans ((gtrans HG7.out hg8).block k h2 (fun e => by injection e with e; have := HX.out.g2; omega)))
        have z0 := blk_cell HB9.out 0
        have z1 := blk_cell HB9.out 1
        have z2 := blk_cell HB9.out 2
        have z3 := blk_cell HB9.out 3
        simp only [List.getElem?_toArray, List.getElem?_cons_succ, List.getElem?_cons_zero] at z0 z1 z2 z3
        have HSK := Lib.hid (show wr.heap.size ≤ (w8.setCell ⟨w7.heap.size, 3, none⟩ (.int .i64 le)).heap.size from (gset (gtrans HG7.out hg8 : wr.grownBy w8 (some g)) 3 (.int .i64 le) |> fun h => by have := (gtrans HG7.out hg8).size; simpa [World.setCell] using this))
        clear hx8 hg8 hb8
        go_wp2_with fail
        refine (entry_calls (at_ + (1 + by_), hd, sz, le) _).mono ?_; rintro e w9 ⟨rfl, hb9⟩
        have HXa := Lib.hid (HX9.out.under hb9)
        have hb10 := blk_below HB9.out hb9
        have y0 := blk_cell hb10 0
        have y1 := blk_cell hb10 1
        have y2 := blk_cell hb10 2
        have y3 := blk_cell hb10 3
        simp only [List.getElem?_toArray, List.getElem?_cons_succ, List.getElem?_cons_zero] at y0 y1 y2 y3
        have HRa := Lib.hid (Kd.R_step HR.out (fun k h1 h2 => (hb9.block k (Nat.lt_of_lt_of_le h2 HSK.out)).trans (HK.out k h1 h2)))
        clear hb9 hb10 z0 z1 z2 z3 f3 c3
        cases hmay : eMay (at_ + (1 + by_), hd, sz, le) with
        | false =>
          have hfin := Lib.hid (show O = none by rw [HO.out, HGj.out, Hf.out, getF_may _ _ _ _ _ Hc1.out (by rw [Hre.out]; exact hbw) (by rw [Hre.out]; exact hmay)]; rfl)
          clear hmay
          go_wp2
          go_ret2
          rw [hfin.out]
          exact ⟨rfl, HXa.out.below⟩
        | true =>
          have hst := Lib.hid (show G = getF f nn sl (at_ + (1 + by_)) (acc ++ [(at_ + (1 + by_), hd, sz, le)]) by rw [HGj.out, Hf.out, getF_some _ _ _ _ _ Hc1.out (by rw [Hre.out]; exact hbw) (by rw [Hre.out]; exact hmay), Hre.out])
          have hx := hmay
          unfold eMay at hx
          have hx := of_decide_eq_true hx
          clear hmay
          have hok := HRa.out.1
          have Hok := Lib.hid hok
          clear hok
          go_wp2_with (at_builtin; refine Kd.R_append kE (w0 := w) w.heap.size rfl (.tmp 52) (.tmp 54) 51 50 _ 32 rfl Tryd.underlying51 infoE rfl (by decide) (by decide) (.slice A6 acc.length c6) acc (at_ + (1 + by_), hd, sz, le) [.int .i64 (at_ + (1 + by_)), .int .i64 hd, .int .i64 sz, .int .i64 le] (fun k => w1.heap.size < k) (fun _ => False) rfl rfl (kE_mkM _ _ _ _) (fun _ h => h.elim) ?fresh HRa.out HXa.out.below HXa.out.below.size (by omega) ?_; (case fresh => exact fun k hk => Nat.lt_of_lt_of_le HXa.out.lt hk); intro v1 w10 hR10 hb10 hg10 hat10; have HXb := Lib.hid (HXa.out.far hg10 (fun k hk => Hok.out k hk)); have HRb := Lib.hid hR10; clear hb10 hg10 hat10 hR10)
          go_roundw
          case rel => exact ⟨acc ++ [(at_ + (1 + by_), hd, sz, le)], at_ + (1 + by_), sl, rfl, by omega, by rw [List.length_append]; simp; omega, ⟨HXb.out⟩, ⟨HRb.out⟩, ⟨by rw [hst.out]; congr 1; rw [List.length_append]; have := Hf.out; simp; omega⟩⟩
          case measure => simp [intOf]; omega
      · have hd3 : decide (0 ≤ by_ ∧ by_ ≤ 1024) = false := decide_eq_false hbw
        have hfin := Lib.hid (show O = none by rw [HO.out, HGj.out, Hf.out, getF_by _ _ _ _ _ Hc1.out (by unfold rEntry; rw [Hby.out]; exact hbw)]; rfl)
        clear hbw
        go_wp2
        go_ret2
        rw [hfin.out]
        exact ⟨rfl, pw_below_drewN HX4.out.below _⟩
    · have hway : (¬ 0 < nn) ∨ (0 < nn ∧ ¬ (acc.length : Int) < nn) ∨ (0 < nn ∧ (acc.length : Int) < nn ∧ s.2 = true) := by
        by_cases k1 : 0 < nn
        · by_cases k2 : (acc.length : Int) < nn
          · exact .inr (.inr ⟨k1, k2, by cases hs2 : s.2 with | true => rfl | false => exact absurd ⟨k1, k2, hs2⟩ hgo⟩)
          · exact .inr (.inl ⟨k1, k2⟩)
        · exact .inl k1
      clear hgo
      rcases hway with k1 | ⟨k1, k2⟩ | ⟨k1, k2, k3⟩
      · have hd1 : decide ((0 : Int) < nn) = false := decide_eq_false k1
        have hput := Lib.hid (put_region A6 acc.length c6 acc wr hc6 (by omega) HE.out)
        have hend := Lib.hid (show G = some (acc, s) by rw [HGj.out, Hf.out]; exact getF_end _ _ _ _ _ (fun h => k1 (by omega)))
        cases hdr : dir acc with
        | error k =>
          rw [hdr] at hput
          have hfin := Lib.hid (show O = none by rw [HO.out, hend.out]; exact fin_err _ _ _ _ hdr)
          rcases dir_err acc k hdr with rfl | rfl
          all_goals (
            clear hdr
            go_wp2_with fail
            refine hput.out.mono ?_; rintro e wa ⟨rfl, hba⟩
            have HBa := Lib.hid (below_step HX.out.below hba)
            clear hba
            go_wp2
            go_ret2
            rw [hfin.out]
            exact ⟨rfl, HBa.out⟩)
        | ok b =>
          rw [hdr] at hput
          have hfin := Lib.hid (show O = if b = X ∧ s.2 = false then some acc else none by rw [HO.out, hend.out]; exact fin_ok _ _ _ _ hdr)
          have HBb := Lib.hid (dir_bytes acc b (by omega) hdr)
          clear hdr
          go_wp2_with fail
          refine hput.out.mono ?_; rintro e wa ⟨⟨v, rfl, ho⟩, hba⟩
          obtain ⟨Ab, cb, rfl, hcb, hrb⟩ := ho.slice
          have HXa := Lib.hid (HX.out.under hba)
          have HRa := Lib.hid (Kd.R_below HR.out hba)
          have Hrb := Lib.hid hrb
          have Hcb := Lib.hid hcb
          have HErr := Lib.hid (BQ.err_calls g s.1 s.2 _ HXa.out.rdr)
          have hcc := blk_cell HXa.out.cell 0
          simp only [List.getElem?_toArray, List.getElem?_cons_succ, List.getElem?_cons_zero] at hcc
          clear hba ho hrb hcb
          cases hs2 : s.2 with
          | true =>
            have hfin2 := Lib.hid (show O = none by rw [hfin.out, hs2]; simp)
            rw [hs2] at HErr
            clear hs2
            go_wp2_with fail
            refine HErr.out.mono ?_; rintro e wb ⟨rfl, ⟨nb, rfl⟩⟩
            clear hcc
            go_wp2
            go_ret2
            rw [hfin2.out]
            exact ⟨rfl, pw_below_drewN HXa.out.below _⟩
          | false =>
            rw [hs2] at HErr
            have hfin2 := Lib.hid (show O = if b = X then some acc else none by rw [hfin.out, hs2]; simp)
            clear hs2
            go_wp2_with fail
            refine HErr.out.mono ?_; rintro e wb ⟨rfl, ⟨nb, rfl⟩⟩
            clear hcc
            go_wp2_with fail
            refine (equal_calls Ab A cb c b X _ (Hrb.out.below (pw_below_drewN (Below.refl _ _) _)) Hcb.out (HR0.out.below (pw_below_drewN HXa.out.below _)) HC.out HBb.out HB.out).mono ?_; rintro e wc ⟨rfl, ⟨nc, rfl⟩⟩
            by_cases hbx : b = X
            · have hd9 : decide (b = X) = true := decide_eq_true hbx
              have hfin3 := Lib.hid (show O = some acc by rw [hfin2.out, if_pos hbx])
              clear hbx
              go_wp2
              go_ret2
              rw [hfin3.out]
              exact ⟨⟨_, rfl, Kd.R_mono (Kd.R_below HRa.out (pw_below_drewN (Below.refl _ _) _)) (fun _ _ => trivial)⟩, pw_below_drewN HXa.out.below _⟩
            · have hd9 : decide (b = X) = false := decide_eq_false hbx
              have hfin3 := Lib.hid (show O = none by rw [hfin2.out, if_neg hbx])
              clear hbx
              go_wp2
              go_ret2
              rw [hfin3.out]
              exact ⟨rfl, pw_below_drewN HXa.out.below _⟩
      · have hd1 : decide ((0 : Int) < nn) = true := decide_eq_true k1
        have hd2 : decide ((acc.length : Int) < nn) = false := decide_eq_false k2
        have hput := Lib.hid (put_region A6 acc.length c6 acc wr hc6 (by omega) HE.out)
        have hend := Lib.hid (show G = some (acc, s) by rw [HGj.out, Hf.out]; exact getF_end _ _ _ _ _ (fun h => k2 h.1))
        cases hdr : dir acc with
        | error k =>
          rw [hdr] at hput
          have hfin := Lib.hid (show O = none by rw [HO.out, hend.out]; exact fin_err _ _ _ _ hdr)
          rcases dir_err acc k hdr with rfl | rfl
          all_goals (
            clear hdr
            go_wp2_with fail
            refine hput.out.mono ?_; rintro e wa ⟨rfl, hba⟩
            have HBa := Lib.hid (below_step HX.out.below hba)
            clear hba
            go_wp2
            go_ret2
            rw [hfin.out]
            exact ⟨rfl, HBa.out⟩)
        | ok b =>
          rw [hdr] at hput
          have hfin := Lib.hid (show O = if b = X ∧ s.2 = false then some acc else none by rw [HO.out, hend.out]; exact fin_ok _ _ _ _ hdr)
          have HBb := Lib.hid (dir_bytes acc b (by omega) hdr)
          clear hdr
          go_wp2_with fail
          refine hput.out.mono ?_; rintro e wa ⟨⟨v, rfl, ho⟩, hba⟩
          obtain ⟨Ab, cb, rfl, hcb, hrb⟩ := ho.slice
          have HXa := Lib.hid (HX.out.under hba)
          have HRa := Lib.hid (Kd.R_below HR.out hba)
          have Hrb := Lib.hid hrb
          have Hcb := Lib.hid hcb
          have HErr := Lib.hid (BQ.err_calls g s.1 s.2 _ HXa.out.rdr)
          have hcc := blk_cell HXa.out.cell 0
          simp only [List.getElem?_toArray, List.getElem?_cons_succ, List.getElem?_cons_zero] at hcc
          clear hba ho hrb hcb
          cases hs2 : s.2 with
          | true =>
            have hfin2 := Lib.hid (show O = none by rw [hfin.out, hs2]; simp)
            rw [hs2] at HErr
            clear hs2
            go_wp2_with fail
            refine HErr.out.mono ?_; rintro e wb ⟨rfl, ⟨nb, rfl⟩⟩
            clear hcc
            go_wp2
            go_ret2
            rw [hfin2.out]
            exact ⟨rfl, pw_below_drewN HXa.out.below _⟩
          | false =>
            rw [hs2] at HErr
            have hfin2 := Lib.hid (show O = if b = X then some acc else none by rw [hfin.out, hs2]; simp)
            clear hs2
            go_wp2_with fail
            refine HErr.out.mono ?_; rintro e wb ⟨rfl, ⟨nb, rfl⟩⟩
            clear hcc
            go_wp2_with fail
            refine (equal_calls Ab A cb c b X _ (Hrb.out.below (pw_below_drewN (Below.refl _ _) _)) Hcb.out (HR0.out.below (pw_below_drewN HXa.out.below _)) HC.out HBb.out HB.out).mono ?_; rintro e wc ⟨rfl, ⟨nc, rfl⟩⟩
            by_cases hbx : b = X
            · have hd9 : decide (b = X) = true := decide_eq_true hbx
              have hfin3 := Lib.hid (show O = some acc by rw [hfin2.out, if_pos hbx])
              clear hbx
              go_wp2
              go_ret2
              rw [hfin3.out]
              exact ⟨⟨_, rfl, Kd.R_mono (Kd.R_below HRa.out (pw_below_drewN (Below.refl _ _) _)) (fun _ _ => trivial)⟩, pw_below_drewN HXa.out.below _⟩
            · have hd9 : decide (b = X) = false := decide_eq_false hbx
              have hfin3 := Lib.hid (show O = none by rw [hfin2.out, if_neg hbx])
              clear hbx
              go_wp2
              go_ret2
              rw [hfin3.out]
              exact ⟨rfl, pw_below_drewN HXa.out.below _⟩
      · have hd1 : decide ((0 : Int) < nn) = true := decide_eq_true k1
        have hd2 : decide ((acc.length : Int) < nn) = true := decide_eq_true k2
        have HErr0 := Lib.hid (BQ.err_calls g s.1 s.2 wr HX.out.rdr)
        rw [k3] at HErr0
        have hcc0 := blk_cell HX.out.cell 0
        simp only [List.getElem?_toArray, List.getElem?_cons_succ, List.getElem?_cons_zero] at hcc0
        have K3 := Lib.hid k3
        clear k3
        go_wp2_with fail
        refine HErr0.out.mono ?_; rintro e w3 ⟨rfl, ⟨n3, rfl⟩⟩
        clear hcc0
        have HX3 := Lib.hid (HX.out.under (pw_below_drewN (Below.refl _ _) n3))
        have HR3 := Lib.hid (Kd.R_below HR.out (pw_below_drewN (Below.refl _ _) n3))
        have HE3 := Lib.hid (HE.out.below (pw_below_drewN (Below.refl _ _) n3))
        have hput := Lib.hid (put_region A6 acc.length c6 acc (wr.drewN n3) hc6 (by omega) HE3.out)
        have hend := Lib.hid (show G = some (acc, s) by rw [HGj.out, Hf.out]; exact getF_end _ _ _ _ _ (fun h => by rw [K3.out] at h; exact absurd h.2 (by simp)))
        cases hdr : dir acc with
        | error k =>
          rw [hdr] at hput
          have hfin := Lib.hid (show O = none by rw [HO.out, hend.out]; exact fin_err _ _ _ _ hdr)
          rcases dir_err acc k hdr with rfl | rfl
          all_goals (
            clear hdr
            go_wp2_with fail
            refine hput.out.mono ?_; rintro e wa ⟨rfl, hba⟩
            have HBa := Lib.hid (below_step HX3.out.below hba)
            clear hba
            go_wp2
            go_ret2
            rw [hfin.out]
            exact ⟨rfl, HBa.out⟩)
        | ok b =>
          rw [hdr] at hput
          have hfin := Lib.hid (show O = if b = X ∧ s.2 = false then some acc else none by rw [HO.out, hend.out]; exact fin_ok _ _ _ _ hdr)
          have HBb := Lib.hid (dir_bytes acc b (by omega) hdr)
          clear hdr
          go_wp2_with fail
          refine hput.out.mono ?_; rintro e wa ⟨⟨v, rfl, ho⟩, hba⟩
          obtain ⟨Ab, cb, rfl, hcb, hrb⟩ := ho.slice
          have HXa := Lib.hid (HX3.out.under hba)
          have HRa := Lib.hid (Kd.R_below HR3.out hba)
          have Hrb := Lib.hid hrb
          have Hcb := Lib.hid hcb
          have HErr := Lib.hid (BQ.err_calls g s.1 s.2 _ HXa.out.rdr)
          have hcc := blk_cell HXa.out.cell 0
          simp only [List.getElem?_toArray, List.getElem?_cons_succ, List.getElem?_cons_zero] at hcc
          clear hba ho hrb hcb
          cases hs2 : s.2 with
          | true =>
            have hfin2 := Lib.hid (show O = none by rw [hfin.out, hs2]; simp)
            rw [hs2] at HErr
            clear hs2
            go_wp2_with fail
            refine HErr.out.mono ?_; rintro e wb ⟨rfl, ⟨nb, rfl⟩⟩
            clear hcc
            go_wp2
            go_ret2
            rw [hfin2.out]
            exact ⟨rfl, pw_below_drewN HXa.out.below _⟩
          | false =>
            rw [hs2] at HErr
            have hfin2 := Lib.hid (show O = if b = X then some acc else none by rw [hfin.out, hs2]; simp)
            clear hs2
            go_wp2_with fail
            refine HErr.out.mono ?_; rintro e wb ⟨rfl, ⟨nb, rfl⟩⟩
            clear hcc
            go_wp2_with fail
            refine (equal_calls Ab A cb c b X _ (Hrb.out.below (pw_below_drewN (Below.refl _ _) _)) Hcb.out (HR0.out.below (pw_below_drewN HXa.out.below _)) HC.out HBb.out HB.out).mono ?_; rintro e wc ⟨rfl, ⟨nc, rfl⟩⟩
            by_cases hbx : b = X
            · have hd9 : decide (b = X) = true := decide_eq_true hbx
              have hfin3 := Lib.hid (show O = some acc by rw [hfin2.out, if_pos hbx])
              clear hbx
              go_wp2
              go_ret2
              rw [hfin3.out]
              exact ⟨⟨_, rfl, Kd.R_mono (Kd.R_below HRa.out (pw_below_drewN (Below.refl _ _) _)) (fun _ _ => trivial)⟩, pw_below_drewN HXa.out.below _⟩
            · have hd9 : decide (b = X) = false := decide_eq_false hbx
              have hfin3 := Lib.hid (show O = none by rw [hfin2.out, if_neg hbx])
              clear hbx
              go_wp2
              go_ret2
              rw [hfin3.out]
              exact ⟨rfl, pw_below_drewN HXa.out.below _⟩
end Go.Proofs.YtijjecnmdhefbaaDoor.RG

namespace Go.Proofs.YtijjecnmdhefbaaDoor.SP
open Go.RowKit Go.Proofs.YtijjecnmdhefbaaDoorW.PrintWords Go.Proofs.YtijjecnmdhefbaaDoorW.PrintLast Go.Proofs.YtijjecnmdhefbaaDoorW.PrintMore Go.Proofs.YtijjecnmdhefbaaDoor.CD Go.Proofs.YtijjecnmdhefbaaDoor.BR Go.Proofs.YtijjecnmdhefbaaDoor.BP Go.Proofs.YtijjecnmdhefbaaDoor.RG
set_option linter.unusedVariables false
set_option linter.unusedSimpArgs false
set_option maxRecDepth 100000
theorem of_1 : PRegionKnown.region_Of.f (-1) 2 17 = some (-1, 1, 126, true) := by decide +kernel
theorem of_2 : PRegionKnown.region_Of.f 0 4 0 = some (0, 0, 0, false) := by decide +kernel
theorem back_1 : PRegionKnown.region_Back.f (-1) 1 126 = some (-1, 2, 17, true) := by decide +kernel
theorem back_2 : PRegionKnown.region_Back.f 0 0 1024 = some (0, 0, 0, false) := by decide +kernel
def e2 : List Ent := [(5, 1, 1, 0), (3, 1, 1, 0)]
def e1 : List Ent := [(1024, 1, 1, 0)]
theorem dir_0 : dir [] = .ok [0] := by kernel_rfl
theorem dir_2 : dir e2 = .error 6 := by kernel_rfl
theorem dir_1 : dir e1 = .error 2 := by kernel_rfl
theorem root_1 : PRegionKnown.region_PutRoot.f 30 [⟨-1, 1, 5, 6⟩] = some ([1, 1, 2, 5, 6], 0) := by kernel_rfl
theorem get_1 : getDir [2, 3, 9, 100, 0] = none := by kernel_rfl
theorem get_2 : getDir [] = none := by kernel_rfl
theorem ents_0 (w : World) : Ents w none 0 [] := ⟨rfl, fun j hj => absurd hj (by omega)⟩
theorem ents_2 (w : World) : Ents (w.alloc (.cells #[.int .i64 5, .int .i64 1, .int .i64 1, .int .i64 0, .int .i64 3, .int .i64 1, .int .i64 1, .int .i64 0] 50)) (some ⟨w.heap.size, 0, none⟩) 2 e2 := by
  refine ⟨rfl, fun j hj => ⟨_, rfl, ?_⟩⟩
  have Hb := blk_new w (.cells #[.int .i64 5, .int .i64 1, .int .i64 1, .int .i64 0, .int .i64 3, .int .i64 1, .int .i64 1, .int .i64 0] 50)
  rcases (by omega : j = 0 ∨ j = 1) with rfl | rfl
  · exact ⟨blk_cell Hb 0, blk_cell Hb 1, blk_cell Hb 2, blk_cell Hb 3⟩
  · exact ⟨blk_cell Hb 4, blk_cell Hb 5, blk_cell Hb 6, blk_cell Hb 7⟩
theorem ents_1 (w : World) : Ents (w.alloc (.cells #[.int .i64 1024, .int .i64 1, .int .i64 1, .int .i64 0] 50)) (some ⟨w.heap.size, 0, none⟩) 1 e1 := by
  refine ⟨rfl, fun j hj => ⟨_, rfl, ?_⟩⟩
  have Hb := blk_new w (.cells #[.int .i64 1024, .int .i64 1, .int .i64 1, .int .i64 0] 50)
  obtain rfl : j = 0 := by omega
  exact ⟨blk_cell Hb 0, blk_cell Hb 1, blk_cell Hb 2, blk_cell Hb 3⟩
theorem reg_1 (w : World) : Kd.C PRegionKnown.k56 (w.alloc (.cells #[.int .i64 (-1), .int .i64 1, .int .i64 5, .int .i64 6] 56)) (some ⟨w.heap.size, 0, none⟩) 1 [⟨-1, 1, 5, 6⟩] := by
  refine ⟨rfl, by decide, fun _ => ⟨_, rfl, fun j p hj => ?_⟩⟩
  match j, hj with
  | 0, hj =>
    obtain rfl := Option.some.inj hj
    refine ⟨_, rfl, PRegionKnown.k56_mk _ _, fun i v hv => ?_⟩
    rw [Addr.add_mid, Nat.zero_mul, Nat.zero_add, Nat.zero_add, blk_cell (blk_new w _) i]
    simpa using hv
  | (j + 1), hj => simp at hj
theorem zbytes (n : Nat) : Bytes (List.replicate n (0 : Int)) := fun x hx => by rw [List.eq_of_mem_replicate hx]; decide
theorem gets_zero {n : Nat} {w w' : World} {e : Ending} (h : Gets (strOfNums (List.replicate n 0)) w e w') : e = .returned (.tuple #[.agg (supC zeroS).toArray, .int .i64 21]) ∧ Below w.heap.size w w' := by
  have hb : bytesOf (strOfNums (List.replicate n (0 : Int))) = List.replicate n 0 := BS.bytesOf_str _ (zbytes n)
  obtain ⟨h1, h2⟩ := h
  refine ⟨?_, h2⟩
  rcases h1 with ⟨s', hk, he, _⟩ | ⟨_, rfl⟩
  · exfalso
    refine pre_not (sector := strOfNums (List.replicate n (0 : Int))) (fun hl ht => ?_) s' hk he
    rw [hb] at hl ht
    rw [List.length_replicate] at hl
    subst hl
    exact absurd ht (by decide)
  · rfl
def s255 : Sup := { zeroS with sectors := 255 }
def s256 : Sup := { zeroS with sectors := 256 }
theorem sup_255 : superB s255 = false := by decide
theorem sup_256 : superB s256 = true := by decide
theorem puts_255 {w w' : World} {e : Ending} (h : Puts s255 w e w') : e = .returned (.tuple #[.string ByteArray.empty, .int .i64 2]) ∧ Below w.heap.size w w' := by
  obtain ⟨h1, h2⟩ := h
  rw [if_neg (by rw [sup_255]; decide)] at h1
  exact ⟨h1, h2⟩
theorem puts_256 {w w' : World} {e : Ending} (h : Puts s256 w e w') : e = .returned (.tuple #[.string (strOfNums (putS s256)), .int .i64 0]) ∧ Below w.heap.size w w' := by
  obtain ⟨h1, h2⟩ := h
  rw [if_pos sup_256] at h1
  exact ⟨h1, h2⟩
theorem ok_256 : Ok lims s256 := (superB_iff s256 (by decide)).1 sup_256
theorem cut_256 : (strOfNums (putS s256)).extract 0 8 = ⟨#[66, 69, 68, 82, 79, 67, 75, 49]⟩ := by
  have h1 := BS.bytesOf_extract (strOfNums (putS s256)) 0 8
  rw [BS.bytesOf_str _ (putS_bytes s256 ok_256), List.drop_zero] at h1
  rw [← BS.str_bytesOf ((strOfNums (putS s256)).extract 0 8), h1, show (putS s256).take 8 = magic from rfl]
  rfl
abbrev ZA2 : Array Value := #[.int .i64 0, .int .i64 0, .int .u64 0, .int .i64 0, .int .i64 0, .int .i64 0, .bool false, .int .i64 0, .int .i64 0, .int .i64 0, .bool false, .int .i64 0, .int .i64 0, .int .i64 0, .int .i64 0, .int .i64 0, .int .i64 0, .int .i64 0]
theorem zmade (w : World) (n : Nat) (hn : n ≤ 1000) : ReadsInt (w.alloc (.cells (madeCells #[.int .u8 0] n) 5)) .u8 (some ⟨w.heap.size, 0, none⟩) (List.replicate n (0 : Int)).length (List.replicate n 0) := by
  have h := own_made w w.heap.size 5 .u8 n (Nat.le_refl _) (by omega)
  have h2 : OB (w.alloc (.cells (madeCells #[.int .u8 0] n) 5)) w.heap.size (.slice (some ⟨w.heap.size, 0, none⟩) (List.replicate n (0 : Int)).length n) (List.replicate n 0) := by
    unfold OB
    rw [List.length_replicate]
    exact h
  exact OB.reads h2
set_option maxHeartbeats 16000000 in
theorem knownWalk (w : World) (ht : CK.Tab w) (h0 : 0 < w.heap.size) :
    Calls Tryd.prog 5 #[] w fun e w' => e = .returned (.bool true) ∧ Below w.heap.size w w' := by
  have HT := Lib.hid ht
  have H0 := Lib.hid h0
  clear ht h0
  have HW := Lib.hid (fun W => works24 W)
  have C1 := Lib.hid (fun W => PRegionKnown.region_Of.calls (-1) 2 17 (-1) 1 126 true W of_1)
  have C2 := Lib.hid (fun W => PRegionKnown.region_Back.calls (-1) 1 126 (-1) 2 17 true W back_1)
  have C3 := Lib.hid (fun W => PRegionKnown.region_Of.calls 0 4 0 0 0 0 false W of_2)
  have C4 := Lib.hid (fun W => PRegionKnown.region_Back.calls 0 0 1024 0 0 0 false W back_2)
  have P0 := Lib.hid (fun W => put_region none 0 0 [] W (Nat.le_refl _) (by omega) (ents_0 W))
  have P2 := Lib.hid (fun W => put_region _ 2 2 e2 _ (Nat.le_refl _) (by omega) (ents_2 W))
  have P1 := Lib.hid (fun W => put_region _ 1 1 e1 _ (Nat.le_refl _) (by omega) (ents_1 W))
  have G1 := Lib.hid (fun W => get_region (some ⟨W.heap.size, 0, none⟩) 5 [2, 3, 9, 100, 0] (W.alloc (.cells #[.int .u8 2, .int .u8 3, .int .u8 9, .int .u8 100, .int .u8 0] 5)) (own_reads' (n := 5) (own_lit W W.heap.size 5 .u8 [2, 3, 9, 100, 0] (Nat.le_refl _) (by decide))) (by decide) (by intro x hx; simp at hx; omega) (by decide))
  have G2 := Lib.hid (fun W => get_region none 0 [] W ⟨rfl, by decide, fun h => absurd h (by decide)⟩ (Nat.le_refl _) (fun x hx => by cases hx) (by decide))
  have R1 := Lib.hid (fun W => PRegionKnown.region_PutRoot.calls 30 (some ⟨W.heap.size, 0, none⟩) 1 [⟨-1, 1, 5, 6⟩] [1, 1, 2, 5, 6] 0 _ (reg_1 W) (by decide) root_1)
  go_enter Tryd.func5, Tryd.ntmps5
  go_wp2_with fail
  refine (C1.out _).mono ?_; rintro e w1 ⟨rfl, hb1⟩
  have HB1 := Lib.hid hb1
  clear hb1
  go_wp2_with fail
  refine (C2.out _).mono ?_; rintro e w2 ⟨rfl, hb2⟩
  have HB2 := Lib.hid (below_step HB1.out hb2)
  have Hx0 := Lib.hid (blk_new w2 (.cells #[.int .i64 (-1), .int .i64 2, .int .i64 17] 24))
  have HB3 := Lib.hid (below_step HB2.out (below_alloc (Below.refl w2.heap.size w2) (.cells #[.int .i64 (-1), .int .i64 2, .int .i64 17] 24)))
  clear hb2
  go_wp2_with fail
  refine (C3.out _).mono ?_; rintro e w3 ⟨rfl, hb3⟩
  have HB4 := Lib.hid (below_step HB3.out hb3)
  have Hx1 := Lib.hid (blk_below Hx0.out hb3)
  clear hb3 Hx0 HB1 HB2 HB3
  go_wp2_with fail
  refine (C4.out _).mono ?_; rintro e w4 ⟨rfl, hb4⟩
  have HB5 := Lib.hid (below_step HB4.out hb4)
  have Hx2 := Lib.hid (blk_below Hx1.out hb4)
  have HB6 := Lib.hid (below_step HB5.out (below_alloc (Below.refl w4.heap.size w4) (.cells #[.int .i64 0, .int .i64 0, .int .i64 0] 24)))
  have Hx3 := Lib.hid (blk_below Hx2.out (below_alloc (Below.refl w4.heap.size w4) (.cells #[.int .i64 0, .int .i64 0, .int .i64 0] 24)))
  clear hb4 Hx1 Hx2 HB4 HB5
  have x0 := blk_cell Hx3.out 0
  have x1 := blk_cell Hx3.out 1
  have x2 := blk_cell Hx3.out 2
  simp only [List.getElem?_toArray, List.getElem?_cons_succ, List.getElem?_cons_zero] at x0 x1 x2
  go_wp2_with fail
  refine (P0.out _).mono ?_; rintro e w5 h5
  rw [dir_0] at h5
  obtain ⟨⟨v5, rfl, ho5⟩, hb5⟩ := h5
  obtain ⟨A5, c5, rfl, hc5, hr5⟩ := ho5.slice
  have HB7 := Lib.hid (below_step HB6.out hb5)
  have HR5 := Lib.hid hr5
  clear ho5 hc5 hr5 hb5 x0 x1 x2 Hx3 HB6
  go_wp2_with fail
  refine (P2.out _).mono ?_; rintro e w6 h6
  rw [dir_2] at h6
  obtain ⟨rfl, hb6⟩ := h6
  have HB8 := Lib.hid (below_step HB7.out (below_step (below_alloc (Below.refl _ _) _) hb6))
  have HR6 := Lib.hid (HR5.out.below (below_step (below_alloc (Below.refl _ _) _) hb6))
  clear hb6 HR5 HB7
  go_wp2_with fail
  refine (P1.out _).mono ?_; rintro e w7 h7
  rw [dir_1] at h7
  obtain ⟨rfl, hb7⟩ := h7
  have HB9 := Lib.hid (below_step HB8.out (below_step (below_alloc (Below.refl _ _) _) hb7))
  have HR7 := Lib.hid (HR6.out.below (below_step (below_alloc (Below.refl _ _) _) hb7))
  clear hb7 HR6 HB8
  go_wp2_with fail
  refine (G1.out _).mono ?_; rintro e w8 h8
  rw [get_1] at h8
  obtain ⟨rfl, hb8⟩ := h8
  have HB10 := Lib.hid (below_step HB9.out (below_step (below_alloc (Below.refl _ _) _) hb8))
  have HR8 := Lib.hid (HR7.out.below (below_step (below_alloc (Below.refl _ _) _) hb8))
  clear hb8 HR7 HB9
  go_wp2_with fail
  refine (G2.out _).mono ?_; rintro e w9 h9
  rw [get_2] at h9
  obtain ⟨rfl, hb9⟩ := h9
  have HB11 := Lib.hid (below_step HB10.out hb9)
  have HR9 := Lib.hid (HR8.out.below hb9)
  clear hb9 HR8 HB10
  go_wp2_with fail
  refine (R1.out _).mono ?_; rintro e w10 ⟨v10, rfl, hR10, hb10⟩
  have ho10 := OB.of_R hR10
  obtain ⟨A10, c10, rfl, hc10, hr10⟩ := ho10.slice
  have HB12 := Lib.hid (below_step HB11.out (below_step (below_alloc (Below.refl _ _) _) hb10))
  have HR10 := Lib.hid (HR9.out.below (below_step (below_alloc (Below.refl _ _) _) hb10))
  have q1 := hcv24 (c := c5) HR10.out
  have q2 := hcv24 (c := c10) hr10
  rw [show ([0] : List Int).length = 1 from rfl] at q1
  rw [show ([1, 1, 2, 5, 6] : List Int).length = 5 from rfl] at q2
  have e1 : ((strOfNums [0]).toList == ([0] : List UInt8)) = true := by decide +kernel
  have e3 : ((strOfNums [1, 1, 2, 5, 6]).toList == ([1, 1, 2, 5, 6] : List UInt8)) = true := by decide +kernel
  clear hR10 hb10 HR9 HB11 ho10 hc10 hr10
  go_upto_region 15 with fail
  clear q1 q2 e1 e3
  have HPut := Lib.hid (putSuper_calls s255 w10 (by decide) (HT.out.below HB12.out H0.out) (by have := HB12.out.size; have := H0.out; omega))
  go_wp2_with fail
  refine HPut.out.mono ?_; rintro e w11 he
  obtain ⟨rfl, hb11⟩ := puts_255 he
  have HB13 := Lib.hid (below_step HB12.out hb11)
  clear hb11 he HPut HB12 HR10
  have hmk : ∀ W : World, (Instr.makeSlice 41 (.int .i64 512) (.int .i64 512)).run Tryd.prog W = .ok (.slice (some ⟨W.heap.size, 0, none⟩) 512 512) (W.alloc (.cells (madeCells #[.int .u8 0] 512) 5)) :=
    print_make (P := Tryd.prog) 41 5 .u8 1 Tryd.underlying41 infoU8 (by decide) 512 (by decide)
  have hcv := conv_str (c := 512) (zmade w11 512 (by decide))
  rw [List.length_replicate] at hcv
  obtain ⟨Z, hZ⟩ : ∃ Z, Z = strOfNums (List.replicate 512 0) := ⟨_, rfl⟩
  rw [← hZ] at hcv
  have HB14 := Lib.hid (below_step HB13.out (below_alloc (Below.refl w11.heap.size w11) (.cells (madeCells #[.int .u8 0] 512) 5)))
  have HGet := Lib.hid (getSuper_calls Z (w11.alloc (.cells (madeCells #[.int .u8 0] 512) 5)) (HT.out.below HB14.out H0.out) (by have := HB14.out.size; have := H0.out; omega))
  have HZ := Lib.hid hZ
  clear hZ
  go_wp2_with fail
  refine HGet.out.mono ?_; rintro e w12 he
  rw [HZ.out] at he
  obtain ⟨rfl, hb12⟩ := gets_zero he
  have HB15 := Lib.hid (below_step HB14.out hb12)
  clear he hb12 HGet hcv hmk HZ HB13 HB14
  go_upto_region 17 with (refine store_sup 27 157 zeroS (z := zeroS) (G := w12.heap.size) rfl rfl ?_ ?_; · exact SupAt.new w12 zeroS)
  have HB16 := Lib.hid (below_step HB15.out (belowg (below_alloc (Below.refl w12.heap.size w12) (.cells (supC zeroS).toArray 33)) (gsets (supC zeroS) 0 _ (World.grownBy.refl _ (some w12.heap.size))) (by simp) (Nat.le_refl _)))
  obtain ⟨W13, hW13⟩ : ∃ W, (w12.alloc (.cells (supC zeroS).toArray 33)).setCells w12.heap.size 0 (supC zeroS) = W := ⟨_, rfl⟩
  rw [hW13] at HB16
  rw [show (w12.alloc (.cells ZA2 33)).setCells w12.heap.size 0 (supC zeroS) = W13 from hW13]
  clear hW13 HB15
  have hmk : ∀ W : World, (Instr.makeSlice 41 (.int .i64 511) (.int .i64 511)).run Tryd.prog W = .ok (.slice (some ⟨W.heap.size, 0, none⟩) 511 511) (W.alloc (.cells (madeCells #[.int .u8 0] 511) 5)) :=
    print_make (P := Tryd.prog) 41 5 .u8 1 Tryd.underlying41 infoU8 (by decide) 511 (by decide)
  have hcv := conv_str (c := 511) (zmade W13 511 (by decide))
  rw [List.length_replicate] at hcv
  obtain ⟨Z, hZ⟩ : ∃ Z, Z = strOfNums (List.replicate 511 0) := ⟨_, rfl⟩
  rw [← hZ] at hcv
  have HB17 := Lib.hid (below_step HB16.out (below_alloc (Below.refl W13.heap.size W13) (.cells (madeCells #[.int .u8 0] 511) 5)))
  have HGet := Lib.hid (getSuper_calls Z (W13.alloc (.cells (madeCells #[.int .u8 0] 511) 5)) (HT.out.below HB17.out H0.out) (by have := HB17.out.size; have := H0.out; omega))
  have HZ := Lib.hid hZ
  clear hZ
  go_wp2_with fail
  refine HGet.out.mono ?_; rintro e w14 he
  rw [HZ.out] at he
  obtain ⟨rfl, hb14⟩ := gets_zero he
  have HB18 := Lib.hid (below_step HB17.out hb14)
  clear he hb14 HGet hcv hmk HZ HB16 HB17
  go_upto_region 18 with (refine store_sup 29 163 zeroS (z := zeroS) (G := w14.heap.size) rfl rfl ?_ ?_; · exact SupAt.new w14 zeroS)
  have HB19 := Lib.hid (below_step HB18.out (belowg (below_alloc (Below.refl w14.heap.size w14) (.cells (supC zeroS).toArray 33)) (gsets (supC zeroS) 0 _ (World.grownBy.refl _ (some w14.heap.size))) (by simp) (Nat.le_refl _)))
  obtain ⟨W15, hW15⟩ : ∃ W, (w14.alloc (.cells (supC zeroS).toArray 33)).setCells w14.heap.size 0 (supC zeroS) = W := ⟨_, rfl⟩
  rw [hW15] at HB19
  rw [show (w14.alloc (.cells ZA2 33)).setCells w14.heap.size 0 (supC zeroS) = W15 from hW15]
  clear hW15 HB18
  have HPut := Lib.hid (putSuper_calls s256 W15 (by decide) (HT.out.below HB19.out H0.out) (by have := HB19.out.size; have := H0.out; omega))
  go_wp2_with fail
  refine HPut.out.mono ?_; rintro e w16 he
  obtain ⟨rfl, hb16⟩ := puts_256 he
  have HB20 := Lib.hid (below_step HB19.out hb16)
  clear hb16 he HPut HB19
  have hcut := cut_256
  have hsz := putS_str s256
  obtain ⟨X, hX⟩ : ∃ X, strOfNums (putS s256) = X := ⟨_, rfl⟩
  rw [hX] at hcut hsz
  rw [hX]
  clear hX
  have hmg : ((⟨#[66, 69, 68, 82, 79, 67, 75, 49]⟩ : ByteArray).toList == (⟨#[66, 69, 68, 82, 79, 67, 75, 49]⟩ : ByteArray).toList) = true := BS.beq_same _
  go_wp2_with fail
  refine (HW.out _).mono ?_; rintro e w17 ⟨rfl, hb17⟩
  have HB21 := Lib.hid (below_step HB20.out hb17)
  clear hb17
  go_wp2
  go_ret
  exact ⟨rfl, HB21.out⟩
end Go.Proofs.YtijjecnmdhefbaaDoor.SP
