/- A region's directory as bytes: the plain law, the argument, the walk of region.Put. -/
import Derived.Test.YtijjecnmdhefbaaBPut
import Derived.Test.YtijjecnmdhefbaaBOwn
import Derived.Test.YtijjecnmdhefbaaBAsk
import Derived.Test.YtijjecnmdhefbaaPRegionRootsx2
import Derived.Outline
namespace Go.Proofs.Ytijjecnmdhefbaa.RG
open Go.ChangeShapes Go.WideShapes Go.Deep Go.RowKit Go.Proofs.YtijjecnmdhefbaaW.PrintWords Go.Proofs.YtijjecnmdhefbaaW.PrintLast Go.Proofs.YtijjecnmdhefbaaW.PrintMore Go.Proofs.Ytijjecnmdhefbaa.CD Go.Proofs.Ytijjecnmdhefbaa.BR Go.Proofs.Ytijjecnmdhefbaa.BP
set_option linter.unusedVariables false
set_option linter.unusedSimpArgs false
/-- An entry: its place, its head, its size, its least. -/
abbrev Ent := Int × Int × Int × Int
def E0 : Ent := (0, 0, 0, 0)
def eMay (x : Ent) : Bool := decide ((0 ≤ x.1 ∧ x.1 ≤ 1023) ∧ (1 ≤ x.2.1 ∧ x.2.1 ≤ 131071) ∧ (1 ≤ x.2.2.1 ∧ x.2.2.1 ≤ 65536) ∧ 0 ≤ x.2.2.2 ∧ x.2.2.2 ≤ 2199023255552)
def eNums (was : Int) (x : Ent) : List Nat := [(x.1 - was - 1).toNat, x.2.1.toNat, x.2.2.1.toNat, x.2.2.2.toNat]
def nums4 (l : List Nat) : List Int := l.flatMap num
/-- The rest of a directory's bytes behind the place 'was', or why not. -/
def dirF : Int → List Ent → Except Int (List Int)
  | _, [] => .ok []
  | was, x :: l => if eMay x = false then .error 2 else if x.1 ≤ was then .error 6 else (dirF x.1 l).map (nums4 (eNums was x) ++ ·)
def dir (l : List Ent) : Except Int (List Int) := (dirF (-1) l).map (num l.length ++ ·)
def glue (b : List Int) (d : Except Int (List Int)) : Except Int (List Int) := d.map (b ++ ·)
theorem glue_glue (a b : List Int) (d : Except Int (List Int)) : glue a (glue b d) = glue (a ++ b) d := by
  cases d <;> simp [glue, Except.map]
theorem dirF_step (was : Int) (x : Ent) (l : List Ent) (h1 : eMay x = true) (h2 : ¬ x.1 ≤ was) : dirF was (x :: l) = glue (nums4 (eNums was x)) (dirF x.1 l) := by
  simp only [dirF]
  rw [h1, if_neg (by simp), if_neg h2]; rfl
theorem nums4_le (l : List Nat) : (nums4 l).length ≤ 10 * l.length := by
  induction l with
  | nil => simp [nums4]
  | cons n l ih => unfold nums4 at ih ⊢; rw [List.flatMap_cons, List.length_append, List.length_cons]; have := num_le n; omega
theorem entry_f (x : Ent) : PRegionRoots.region_entry.f x.1 x.2.1 x.2.2.1 x.2.2.2 = some (eMay x) := by
  obtain ⟨a, b, c, d⟩ := x
  unfold PRegionRoots.region_entry.f PRegionRoots.region_within.f eMay
  by_cases h1 : 0 ≤ a
  · by_cases h2 : a ≤ 1023
    · by_cases h3 : 1 ≤ b
      · by_cases h4 : b ≤ 131071
        · by_cases h5 : 1 ≤ c
          · by_cases h6 : c ≤ 65536
            · by_cases h7 : 0 ≤ d <;> simp [h1, h2, h3, h4, h5, h6, h7]
            · simp [h1, h2, h3, h4, h5, h6]
          · simp [h1, h2, h3, h4, h5]
        · simp [h1, h2, h3, h4]
      · simp [h1, h2, h3]
    · simp [h1, h2]
  · simp [h1]
theorem entry_calls (x : Ent) (w : World) : Calls Try.prog 30 #[.agg #[.int .i64 x.1, .int .i64 x.2.1, .int .i64 x.2.2.1, .int .i64 x.2.2.2]] w fun e w' => e = .returned (.bool (eMay x)) ∧ Below w.heap.size w w' :=
  PRegionRoots.region_entry.calls x.1 x.2.1 x.2.2.1 x.2.2.2 _ w (entry_f x)
theorem put_z (A : Option Addr) (c : Nat) (l : List Int) (z : Int) (w : World) (hr : ReadsInt w .u8 A l.length l) (hc : l.length ≤ c) (hz : 0 ≤ z ∧ z < 18446744073709551616) (hl : l.length < 140737488355000) :
    Calls Try.prog 29 #[.slice A l.length c, .int .u64 z] w fun e w' => ∃ v, e = .returned v ∧ OB w' w.heap.size v (l ++ num z.toNat) ∧ Below w.heap.size w w' := by
  have h := put_calls A c l z.toNat w hr hc (by omega) hl
  rw [Int.toNat_of_nonneg hz.1] at h
  exact h
theorem take4_0 (was : Int) (x : Ent) : nums4 ((eNums was x).take 0) ++ num (x.1 - was - 1).toNat = nums4 ((eNums was x).take 1) := by simp [nums4, eNums]
theorem take4_1 (was : Int) (x : Ent) : nums4 ((eNums was x).take 1) ++ num x.2.1.toNat = nums4 ((eNums was x).take 2) := by simp [nums4, eNums]
theorem take4_2 (was : Int) (x : Ent) : nums4 ((eNums was x).take 2) ++ num x.2.2.1.toNat = nums4 ((eNums was x).take 3) := by simp [nums4, eNums]
theorem take4_3 (was : Int) (x : Ent) : nums4 ((eNums was x).take 3) ++ num x.2.2.2.toNat = nums4 ((eNums was x).take 4) := by simp [nums4, eNums]
theorem ix0 (a b c d : Int) (W : World) : (Instr.index 63 (.agg #[.int .u64 a, .int .u64 b, .int .u64 c, .int .u64 d]) (.int .i64 0)).run Try.prog W = .ok (.int .u64 a) W := rfl
theorem ix1 (a b c d : Int) (W : World) : (Instr.index 63 (.agg #[.int .u64 a, .int .u64 b, .int .u64 c, .int .u64 d]) (.int .i64 1)).run Try.prog W = .ok (.int .u64 b) W := rfl
theorem ix2 (a b c d : Int) (W : World) : (Instr.index 63 (.agg #[.int .u64 a, .int .u64 b, .int .u64 c, .int .u64 d]) (.int .i64 2)).run Try.prog W = .ok (.int .u64 c) W := rfl
theorem ix3 (a b c d : Int) (W : World) : (Instr.index 63 (.agg #[.int .u64 a, .int .u64 b, .int .u64 c, .int .u64 d]) (.int .i64 3)).run Try.prog W = .ok (.int .u64 d) W := rfl
/-- A slice of entries that is read. -/
def Ents (w : World) (A : Option Addr) (n : Nat) (xs : List Ent) : Prop :=
  xs.length = n ∧ (∀ j, j < n → ∃ ad, A = some ad ∧ w.cell? (ad.add (j * 4)) = some (.int .i64 (xs.getD j E0).1) ∧ w.cell? ⟨(ad.add (j * 4)).block, (ad.add (j * 4)).off + 1, none⟩ = some (.int .i64 (xs.getD j E0).2.1) ∧ w.cell? ⟨(ad.add (j * 4)).block, (ad.add (j * 4)).off + 2, none⟩ = some (.int .i64 (xs.getD j E0).2.2.1) ∧ w.cell? ⟨(ad.add (j * 4)).block, (ad.add (j * 4)).off + 3, none⟩ = some (.int .i64 (xs.getD j E0).2.2.2))
theorem Ents.below {w w1 : World} {A : Option Addr} {n : Nat} {xs : List Ent} (h : Ents w A n xs) (hb : Below w.heap.size w w1) : Ents w1 A n xs :=
  ⟨h.1, fun j hj => by
    obtain ⟨ad, e, h0, h1, h2, h3⟩ := h.2 j hj
    exact ⟨ad, e, pw_cell_below hb h0, pw_cell_below hb h1, pw_cell_below hb h2, pw_cell_below hb h3⟩⟩
theorem OB.base' {w : World} {b b' : Nat} {v : Value} {l : List Int} (h : OB w b v l) (hb : b' ≤ b) : OB w b' v l := by
  refine ⟨h.1, ?_⟩
  rcases h.2 with h' | ⟨g, cap, cur, hv, hg, hh, hr⟩
  · exact .inl h'
  · exact .inr ⟨g, cap, cur, hv, Nat.le_trans hb hg, hh, hr⟩
/-- What a call that answers bytes or an error returns. -/
def Told (d : Except Int (List Int)) (w : World) (e : Ending) (w' : World) : Prop :=
  (match d with
    | .ok b => ∃ v, e = .returned (.tuple #[v, .int .i64 0]) ∧ OB w' w.heap.size v b
    | .error k => e = .returned (.tuple #[.slice none 0 0, .int .i64 k])) ∧ Below w.heap.size w w'
set_option maxHeartbeats 1000000 in
set_option maxRecDepth 100000 in
theorem put_region (A : Option Addr) (n c : Nat) (xs : List Ent) (w : World) (hn : n ≤ c) (hm : n ≤ 100000000) (hp : Ents w A n xs) :
    Calls Try.prog 14 #[.slice A n c] w fun e w' => Told (dir xs) w e w' := by
  have HP := Lib.hid hp
  have hq := hp.1
  obtain ⟨D, hD⟩ : ∃ D, D = dir xs := ⟨_, rfl⟩
  rw [← hD]
  have HD := Lib.hid (show D = glue (num n) (dirF (-1) (xs.drop 0)) by rw [hD]; unfold dir; rw [hq]; rfl)
  clear hp hD
  go_enter Try.func14, Try.ntmps14
  go_wp2_with fail
  refine (put_nil n _ (by omega)).mono ?_; rintro e w1 ⟨v1, rfl, ho1, hb1⟩; have HB1 := Lib.hid hb1; have HO1 := Lib.hid ho1; clear hb1 ho1
  go_wp2_with fail
  go_loopw [4, 5, 16] (fun bv wv iv W => ∃ (j : Nat) (was : Int) (L : List Int), j ≤ n ∧ iv = .int .i64 (j : Int) ∧ wv = .int .i64 was ∧ (-1 ≤ was ∧ was ≤ 1023) ∧ L.length ≤ 10 + 40 * j ∧ Aside0 (OB W w.heap.size bv L) ∧ Aside0 (D = glue L (dirF was (xs.drop j))) ∧ Aside0 (Below w.heap.size w W)) (fun _ _ iv _ => n - (intOf iv).toNat)
  case atStart => exact ⟨0, -1, num n, by omega, rfl, rfl, by omega, by have := num_le n; omega, ⟨HO1.out⟩, ⟨HD.out⟩, ⟨HB1.out⟩⟩
  case round =>
    obtain ⟨j, was, L, hj, rfl, rfl, hw, hLl, ⟨ho⟩, ⟨hd⟩, ⟨hb⟩⟩ := hrel
    have HBj := Lib.hid hb
    have HDj := Lib.hid hd
    obtain ⟨A5, c5, rfl, hc5, hr5⟩ := ho.slice
    have HO := Lib.hid ho
    have HR5 := Lib.hid hr5
    have HC5 := Lib.hid hc5
    clear hr5 hc5 ho hb hd
    by_cases hlt : j < n
    · obtain ⟨ad, rfl, z0, z1, z2, z3⟩ := (HP.out.below HBj.out).2 j hlt
      have HS := Lib.hid (show xs.drop j = xs.getD j E0 :: xs.drop (j + 1) by rw [List.drop_eq_getElem_cons (by omega), List.getD_eq_getElem?_getD, List.getElem?_eq_getElem (by omega)]; rfl)
      obtain ⟨x, hx⟩ : ∃ x, x = xs.getD j E0 := ⟨_, rfl⟩
      rw [← hx] at HS z0 z1 z2 z3
      clear hx
      go_wp2_with fail
      refine (entry_calls x _).mono ?_; rintro e w3 ⟨rfl, hb3⟩
      have HB3 := Lib.hid (below_step (below_alloc HBj.out _) hb3)
      have HB30 := Lib.hid (below_step (below_alloc (Below.refl wr.heap.size wr) _) hb3)
      have Hbx := blk_below (blk_new wr (.cells #[.int .i64 x.1, .int .i64 x.2.1, .int .i64 x.2.2.1, .int .i64 x.2.2.2] 49)) hb3
      have y0 := blk_cell Hbx 0
      have y1 := blk_cell Hbx 1
      have y2 := blk_cell Hbx 2
      have y3 := blk_cell Hbx 3
      simp only [List.getElem?_toArray, List.getElem?_cons_succ, List.getElem?_cons_zero] at y0 y1 y2 y3
      clear hb3 Hbx
      cases he : eMay x with
      | false =>
        have hfin : Hid (D = .error 2) := Lib.hid (by rw [HDj.out, HS.out]; simp [dirF, he, glue, Except.map])
        clear he
        go_wp2
        go_ret2
        rw [hfin.out]
        exact ⟨rfl, HB3.out⟩
      | true =>
        have hx := he
        unfold eMay at hx
        have hx := of_decide_eq_true hx
        by_cases hle : x.1 ≤ was
        · have hfin : Hid (D = .error 6) := Lib.hid (by rw [HDj.out, HS.out]; simp only [dirF]; rw [he, if_neg (by simp), if_pos hle]; rfl)
          clear he
          go_wp2
          go_ret2
          rw [hfin.out]
          exact ⟨rfl, HB3.out⟩
        · have hnext : Hid (D = glue (L ++ nums4 (eNums was x)) (dirF x.1 (xs.drop (j + 1)))) := Lib.hid (by rw [HDj.out, HS.out, dirF_step was x _ he hle, glue_glue])
          clear he
          have HY0 := Lib.hid y0
          have r0 : 0 ≤ x.1 - was - 1 ∧ x.1 - was - 1 < 18446744073709551616 := by omega
          have r1 : 0 ≤ x.2.1 ∧ x.2.1 < 18446744073709551616 := by omega
          have r2 : 0 ≤ x.2.2.1 ∧ x.2.2.1 < 18446744073709551616 := by omega
          have r3 : 0 ≤ x.2.2.2 ∧ x.2.2.2 < 18446744073709551616 := by omega
          have hw' : -1 ≤ x.1 ∧ x.1 ≤ 1023 := by omega
          go_wp2_with fail
          go_loopw [4, 43] (fun bv iv W => ∃ t : Nat, t ≤ 4 ∧ iv = .int .i64 (t : Int) ∧ Aside0 (OB W w.heap.size bv (L ++ nums4 ((eNums was x).take t))) ∧ Aside0 (Below w3.heap.size w3 W)) (fun _ iv _ => 4 - (intOf iv).toNat)
          case atStart => exact ⟨0, by omega, rfl, ⟨by rw [show L ++ nums4 ((eNums was x).take 0) = L by simp [nums4]]; exact OB.base' ((HO.out.below HB30.out)) (Nat.le_refl _)⟩, ⟨Below.refl _ _⟩⟩
          case round =>
            obtain ⟨t, ht, rfl, ⟨ho⟩, ⟨hb⟩⟩ := hrel
            have HBt := Lib.hid (below_step HB3.out hb)
            have HBt3 := Lib.hid hb
            have hLt : (L ++ nums4 ((eNums was x).take t)).length ≤ 10 + 40 * j + 40 := by
              have := nums4_le ((eNums was x).take t); rw [List.length_take] at this; rw [List.length_append]; have h4 : (eNums was x).length = 4 := rfl; omega
            by_cases h4 : t < 4
            · obtain ⟨M, hM⟩ : ∃ M, M = L ++ nums4 ((eNums was x).take t) := ⟨_, rfl⟩
              rw [← hM] at ho hLt
              obtain ⟨A6, c6, rfl, hc6, hr6⟩ := ho.slice
              have HC6 := Lib.hid hc6
              have HR6 := Lib.hid hr6
              have HM := Lib.hid hM
              clear ho hb hc6 hr6 hM
              rcases (by omega : t = 0 ∨ t = 1 ∨ t = 2 ∨ t = 3) with rfl | rfl | rfl | rfl
              all_goals (
                have k0 := ix0 (x.1 - was - 1) x.2.1 x.2.2.1 x.2.2.2
                have k1 := ix1 (x.1 - was - 1) x.2.1 x.2.2.1 x.2.2.2
                have k2 := ix2 (x.1 - was - 1) x.2.1 x.2.2.1 x.2.2.2
                have k3 := ix3 (x.1 - was - 1) x.2.1 x.2.2.1 x.2.2.2
                go_wp2_with fail
                refine (put_z A6 c6 M _ _ HR6.out HC6.out (by assumption) (by omega)).mono ?_; rintro e w6 ⟨v6, rfl, ho6, hb6⟩
                have HO6 := Lib.hid (OB.base' ho6 HBt.out.size)
                have HB6 := Lib.hid (below_step HBt3.out hb6)
                clear ho6 hb6
                go_wp2
                go_roundw
                case rel => first | exact ⟨1, by omega, rfl, ⟨by have h := HO6.out; rw [HM.out, List.append_assoc, take4_0] at h; exact h⟩, ⟨HB6.out⟩⟩ | exact ⟨2, by omega, rfl, ⟨by have h := HO6.out; rw [HM.out, List.append_assoc, take4_1] at h; exact h⟩, ⟨HB6.out⟩⟩ | exact ⟨3, by omega, rfl, ⟨by have h := HO6.out; rw [HM.out, List.append_assoc, take4_2] at h; exact h⟩, ⟨HB6.out⟩⟩ | exact ⟨4, by omega, rfl, ⟨by have h := HO6.out; rw [HM.out, List.append_assoc, take4_3] at h; exact h⟩, ⟨HB6.out⟩⟩
                case measure => simp [intOf])
            · have ht4 : t = 4 := by omega
              subst t
              have HO4 := Lib.hid ho
              have y0' := pw_cell_below hb HY0.out
              clear ho hb
              go_wp2
              go_roundw
              case rel => exact ⟨j + 1, x.1, _, by omega, by go_num, rfl, hw', by omega, ⟨HO4.out⟩, ⟨hnext.out⟩, ⟨HBt.out⟩⟩
              case measure => simp [intOf]; omega
    · have hjn : j = n := by omega
      subst j
      have hfin : D = .ok L := by rw [HDj.out, List.drop_of_length_le (by omega)]; simp [dirF, glue, Except.map]
      go_wp2
      go_ret2
      rw [hfin]
      exact ⟨⟨_, rfl, HO.out⟩, HBj.out⟩
end Go.Proofs.Ytijjecnmdhefbaa.RG
