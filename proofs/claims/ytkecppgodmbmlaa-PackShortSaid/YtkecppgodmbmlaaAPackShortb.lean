/- The own texts that the statement PackShort leans on: PkMade, PkPlain, PkShortP, PkArg, PkShort. -/
import Derived.Test.YtkecppgodmbmlaaAPackShort
import Derived.Outline
import Derived.OpenShut
import Derived.ChangeSame
import Derived.Deep.Slices
import Derived.Deep.Fields
import Derived.DataShut
import Derived.RowKit
import Derived.SizedLaws
namespace Go.Proofs.Ytkecppgodmbmlaa.PK
open Go.RowKit Go.Proofs.YtkecppgodmbmlaaW.PrintWords Go.Proofs.YtkecppgodmbmlaaW.PrintLast Go.Proofs.YtkecppgodmbmlaaW.PrintMore Go.Proofs.Ytkecppgodmbmlaa.CD Go.Proofs.Ytkecppgodmbmlaa.BR
attribute [local go_sem] max2_int min2_int max_two min_two max_three min_three max_four min_four
set_option linter.unusedVariables false
set_option linter.unusedSimpArgs false
theorem and_low (x : Int) (k : Nat) (hk : k < 32) : bits .and .i64 x (((2 ^ k - 1 : Nat) : Int)) = x % ((2 ^ k : Nat) : Int) := by
  have hp : 2 ^ k < 2 ^ 32 := Nat.pow_lt_pow_right (by omega) hk
  have hp1 : 1 ≤ 2 ^ k := Nat.one_le_two_pow
  have hdvd : ((2 ^ k : Nat) : Int) ∣ ((2 ^ 64 : Nat) : Int) := by
    rw [Int.natCast_dvd_natCast]; exact Nat.pow_dvd_pow 2 (by omega)
  show IntKind.i64.wrap ((BitVec.ofInt 64 x &&& BitVec.ofInt 64 ((2 ^ k - 1 : Nat) : Int)).toNat : Int) = _
  rw [BitVec.toNat_and, BitVec.ofInt_natCast, BitVec.toNat_ofNat, Nat.mod_eq_of_lt (a := 2 ^ k - 1) (by omega), Nat.and_two_pow_sub_one_eq_mod, BitVec.toNat_ofInt]
  have h1 : (((x % ((2 ^ 64 : Nat) : Int)).toNat % 2 ^ k : Nat) : Int) = x % ((2 ^ k : Nat) : Int) := by
    rw [Int.natCast_emod, Int.toNat_of_nonneg (Int.emod_nonneg _ (by decide)), Int.emod_emod_of_dvd _ hdvd]
  rw [h1]
  have h2 : 0 ≤ x % ((2 ^ k : Nat) : Int) := Int.emod_nonneg _ (by omega)
  have h3 : x % ((2 ^ k : Nat) : Int) < ((2 ^ k : Nat) : Int) := Int.emod_lt_of_pos _ (by omega)
  generalize x % ((2 ^ k : Nat) : Int) = y at *
  have h4 : ((2 ^ k : Nat) : Int) < ((4294967296 : Nat) : Int) := Int.ofNat_lt.mpr hp
  rw [i64_w]
  unfold wrap64
  omega
theorem and4095 (x : Int) : bits .and .i64 x 4095 = x % 4096 := and_low x 12 (by decide)
theorem C_takeT {w : World} {A : Option Addr} {n : Nat} {xs : List Pr} (h : Kd.C kT w A n xs) (m : Nat) (hm : m ≤ n) : Kd.C kT w A m (xs.take m) := by
  refine ⟨by rw [List.length_take]; have := h.1; omega, Nat.le_trans hm h.2.1, fun h0 => ?_⟩
  obtain ⟨ad, e, hc⟩ := h.2.2 (by omega)
  exact ⟨ad, e, fun j p hj => hc j p (by rw [List.getElem?_take] at hj; split at hj <;> simp_all)⟩
theorem Pts.below {w w' : World} {A : Option Addr} {ps : List Pt} (h : Pts w A ps) (hb : Below w.heap.size w w') : Pts w' A ps := fun j hj => by
  obtain ⟨ad, rfl, h0, h1, h2, h3, h4, h5⟩ := h j hj
  have k := fun (p : Addr) (v : Value) (hc : w.cell? p = some v) => Lib.Below.cellOf hb hc (Nat.le_refl _)
  exact ⟨ad, rfl, k _ _ h0, k _ _ h1, k _ _ h2, k _ _ h3, k _ _ h4, k _ _ h5⟩
theorem infoTick : (Try.prog.info? 48).map (fun i => (i.zero, i.size, i.bytes)) = some (some (.agg #[.int .i64 0, .int .i64 0]), 2, 16) := by kernel_rfl
/-- What the loop over a part's cells keeps. -/
structure Fi (w W : World) (g : Nat) (C L : List Pr) (at_ i : Nat) (c l : Pr) : Prop where
  below : Below g w W
  ch : Chunk W g (fillN at_ c i C) (fillN at_ l i L) (.slice none 0 0)
theorem step_at (C L : List Pr) (pa pm : Int) (c l : Pr) (at_ i : Nat) (hat : (at_ : Int) = pa % 4096) (hi : i = many (pa, pm, c, l)) : stepM (C, L) (pa, pm, c, l) = (fillN at_ c i C, fillN at_ l i L) := by
  subst hi
  have e : (pa % 4096).toNat = at_ := by omega
  unfold stepM
  simp only [e]
theorem many_at (pa pm : Int) (c l : Pr) (at_ : Nat) (hat : (at_ : Int) = pa % 4096) : many (pa, pm, c, l) = min pm.toNat (4096 - at_) := by
  have e : (pa % 4096).toNat = at_ := by omega
  unfold many
  simp only [e]
theorem many_end (z at_ i M : Nat) (pm : Int) (hM : M = min pm.toNat (4096 - at_)) (hz : z = at_ + i) (hi : i ≤ M) (hin : ¬ ((i : Int) < pm ∧ z < 4096)) : i = M := by omega
theorem many_lt (z at_ i M : Nat) (pm : Int) (hM : M = min pm.toNat (4096 - at_)) (hz : z = at_ + i) (hin : (i : Int) < pm ∧ z < 4096) : i + 1 ≤ M := by omega
theorem madeP_len (ps : List Pt) : (madeP ps).1.length = 4096 ∧ (madeP ps).2.length = 4096 := by
  have : ∀ (l : List Pt) (s : List Pr × List Pr), s.1.length = 4096 ∧ s.2.length = 4096 → (l.foldl stepM s).1.length = 4096 ∧ (l.foldl stepM s).2.length = 4096 := by
    intro l
    induction l with
    | nil => exact fun s h => h
    | cons p l ih => exact fun s h => ih _ ⟨by unfold stepM; rw [fillN_len]; exact h.1, by unfold stepM; rw [fillN_len]; exact h.2⟩
  exact this ps _ ⟨air_len, air_len⟩
theorem takeP_next (l : List Pt) (i : Nat) (h : i < l.length) : l.take (i + 1) = l.take i ++ [l.getD i Q0] := by
  rw [List.take_add_one, List.getD_eq_getElem?_getD, List.getElem?_eq_getElem h]; rfl
set_option maxHeartbeats 2000000 in
set_option maxRecDepth 100000 in
theorem made_calls (A tA : Option Addr) (c tc : Nat) (ps : List Pt) (T : List Pr) (w : World) (hl : ps.length ≤ 140737488355328) (hP : Pts w A ps) (hT : Kd.C kT w tA T.length T) (hc : T.length ≤ tc) (hm : tc ≤ maxLen) :
    Calls Try.prog 17 #[.slice A ps.length c, .slice tA T.length tc] w fun e w' => ∃ v, e = .returned (.pointer (some ⟨w.heap.size, 0, none⟩)) ∧ Chunk w' w.heap.size (madeP (ps.take 300)).1 (madeP (ps.take 300)).2 v ∧ TK w' v (T.take 5000) ∧ Below w.heap.size w w' := by
  have hbu := run_zero
  have hbo := run_box
  have HP := Lib.hid hP
  have HT := Lib.hid hT
  have hand := and4095
  clear hP hT
  go_enter Try.func17, Try.ntmps17
  go_wp2
  clear hbu hbo
  generalize Value.agg zero = u9
  go_loopw [6] (fun kv W => ∃ k : Nat, k ≤ ps.length ∧ k ≤ 300 ∧ kv = .int .i64 (k : Int) ∧ Aside0 (Below w.heap.size w W) ∧ Aside0 (Chunk W w.heap.size (madeP (ps.take k)).1 (madeP (ps.take k)).2 (.slice none 0 0))) (fun kv _ => 300 - (intOf kv).toNat)
  case atStart => exact ⟨0, by omega, by omega, rfl, ⟨below_alloc (Below.refl _ _) _⟩, ⟨chunk_new w⟩⟩
  case round =>
    obtain ⟨k, hk, hk3, rfl, ⟨hb⟩, ⟨hch⟩⟩ := hrel
    have HB := Lib.hid hb
    have HC := Lib.hid hch
    obtain ⟨w5, hw5⟩ : ∃ w5, w5 = wr := ⟨_, rfl⟩
    by_cases hlt : k < ps.length ∧ k < 300
    · have hd1 := decide_eq_true (show (k : Int) < (ps.length : Int) by omega)
      have hd2 := decide_eq_true (show (k : Int) < 300 by omega)
      obtain ⟨ad, rfl, P0⟩ := HP.out k hlt.1
      obtain ⟨p, hp⟩ : ∃ p, ps.getD k Q0 = p := ⟨_, rfl⟩
      rw [hp] at P0
      obtain ⟨pa, pm, ⟨pk, pl⟩, ⟨pq, pr⟩⟩ := p
      simp only at P0
      have HQ := Lib.hid (fun W (hb : Below w.heap.size w W) => (⟨Lib.Below.cellOf hb P0.1 (Nat.le_refl _), Lib.Below.cellOf hb P0.2.1 (Nat.le_refl _), Lib.Below.cellOf hb P0.2.2.1 (Nat.le_refl _), Lib.Below.cellOf hb P0.2.2.2.1 (Nat.le_refl _), Lib.Below.cellOf hb P0.2.2.2.2.1 (Nat.le_refl _), Lib.Below.cellOf hb P0.2.2.2.2.2 (Nat.le_refl _)⟩ : 
        W.cell? (ad.add (k * 6)) = some (.int .i64 pa) ∧ W.cell? ⟨(ad.add (k * 6)).block, (ad.add (k * 6)).off + 1, none⟩ = some (.int .i64 pm) ∧ W.cell? ⟨(ad.add (k * 6)).block, (ad.add (k * 6)).off + 2, none⟩ = some (.int .u8 pk) ∧ W.cell? ⟨(ad.add (k * 6)).block, (ad.add (k * 6)).off + 2 + 1, none⟩ = some (.int .u8 pl) ∧ W.cell? ⟨(ad.add (k * 6)).block, (ad.add (k * 6)).off + 4, none⟩ = some (.int .u8 pq) ∧ W.cell? ⟨(ad.add (k * 6)).block, (ad.add (k * 6)).off + 4 + 1, none⟩ = some (.int .u8 pr)))
      have p0 := (HQ.out _ hb).1
      clear P0
      obtain ⟨at_, hat⟩ : ∃ n : Nat, (n : Int) = pa % 4096 := ⟨(pa % 4096).toNat, by omega⟩
      have hat4 : at_ < 4096 := by omega
      have ha0 : bits .and .i64 pa 4095 = (at_ : Int) := (hand pa).trans hat.symm
      have r1 : (0 ≤ (k : Int)) = True := eq_true (by omega)
      have r2 : ((k : Int) < (ps.length : Int)) = True := eq_true (by omega)
      obtain ⟨C, hCC⟩ : ∃ C, (madeP (ps.take k)).1 = C := ⟨_, rfl⟩
      obtain ⟨L, hLL⟩ : ∃ L, (madeP (ps.take k)).2 = L := ⟨_, rfl⟩
      rw [hCC, hLL] at hch
      have HST := Lib.hid (show madeP (ps.take (k + 1)) = stepM (C, L) (pa, pm, (pk, pl), (pq, pr)) by rw [takeP_next ps k hlt.1, madeP_snoc, hp, ← hCC, ← hLL])
      have HF0 := Lib.hid (⟨hb, hch⟩ : Fi w wr w.heap.size C L at_ 0 (pk, pl) (pq, pr))
      have HW5 := Lib.hid hw5
      have HAT := Lib.hid hat
      clear hb hch hCC hLL hp hw5 hat hand
      go_wp2
      go_loopw [8] (fun iv W => ∃ i : Nat, i ≤ many (pa, pm, (pk, pl), (pq, pr)) ∧ iv = .int .i64 (i : Int) ∧ Aside0 (Fi w W w.heap.size C L at_ i (pk, pl) (pq, pr))) (fun iv _ => 4096 - (intOf iv).toNat)
      case atStart => exact ⟨0, by omega, rfl, ⟨HF0.out⟩⟩
      case round =>
        obtain ⟨i, hi, rfl, ⟨hf⟩⟩ := hrel
        have HF := Lib.hid hf
        clear p0
        have hmany := many_at pa pm (pk, pl) (pq, pr) at_ HAT.out
        have p1 := (HQ.out _ hf.below).2.1
        obtain ⟨z, hz⟩ : ∃ z : Nat, z = at_ + i := ⟨_, rfl⟩
        have ew : wrap64 ((at_ : Int) + (i : Int)) = (z : Int) := by unfold wrap64; omega
        have HZ := Lib.hid hz
        by_cases hin : (i : Int) < pm ∧ z < 4096
        · --CUT1
          have HI1 := Lib.hid (many_lt z at_ i _ pm hmany hz hin)
          clear hmany hi
          have hil : i < 4096 := by omega
          have he1 := decide_eq_true hin.1
          have he2 := decide_eq_true (show (z : Int) < 4096 by omega)
          have he3 := decide_eq_true (show (at_ : Int) + (i : Int) < 4096 by omega)
          obtain ⟨q0, q1, q2, q3, q4, q5⟩ := HQ.out _ hf.below
          obtain ⟨c0, c1⟩ := hf.ch.atC z hin.2
          have cf0 := hf.ch.frz (z * 2)
          have cf1 := hf.ch.frz (z * 2 + 1)
          have r3 : (0 ≤ (z : Int)) = True := eq_true (by omega)
          have r4 : ((z : Int) < 4096) = True := eq_true (by omega)
          have F1 := Lib.hid (hf.ch.setC z hin.2 (pk, pl))
          clear hf hz
          go_wp2_with fail
          refine start_ (n := 13) (S := fun w' => w'.cell? ⟨(ad.add (k * 6)).block, (ad.add (k * 6)).off + 2, none⟩ = some (.int .u8 pk) ∧ w'.cell? ⟨(ad.add (k * 6)).block, (ad.add (k * 6)).off + 2 + 1, none⟩ = some (.int .u8 pl)) (ds := [12]) #[false, false, false, false, false, false, false, false, false, false, false, false, false] (by kernel_rfl) rfl rfl ⟨q2, q3⟩ (fun hHeld => ?_)
          refine pure_ (i := 0) (N := some 42) (v := ?_) (a' := ?_) #[true, false, false, false, false, false, false, false, false, false, false, false, false] rfl rfl (by kernel_rfl) (fun _ _ _ h => h) (Or.inl ⟨by rfl, ?_⟩) ?_ ?_
          rotate_left
          · intro w'
            go_simp
            with_reducible rfl
          rotate_left
          · simp only [Act.put, List.setIfInBounds_toArray, List.set_cons_zero, List.set_cons_succ, i64_w, i32_w]
            rfl
          refine pure_ (i := 1) (N := some 43) (v := ?_) (a' := ?_) #[true, true, false, false, false, false, false, false, false, false, false, false, false] rfl rfl (by kernel_rfl) (fun _ _ _ h => h) (Or.inl ⟨by rfl, ?_⟩) ?_ ?_
          rotate_left
          · intro w'
            go_simp
            with_reducible rfl
          rotate_left
          · simp only [Act.put, List.setIfInBounds_toArray, List.set_cons_zero, List.set_cons_succ, i64_w, i32_w]
            rfl
          refine pure_ (i := 2) (N := some 44) (v := ?_) (a' := ?_) #[true, true, true, false, false, false, false, false, false, false, false, false, false] rfl rfl (by kernel_rfl) (fun _ _ _ h => h) (Or.inl ⟨by rfl, ?_⟩) ?_ ?_
          rotate_left
          · intro w'
            go_simp
            with_reducible rfl
          rotate_left
          · simp only [Act.put, List.setIfInBounds_toArray, List.set_cons_zero, List.set_cons_succ, i64_w, i32_w]
            rfl
          refine pure_ (i := 3) (N := some 45) (v := ?_) (a' := ?_) #[true, true, true, true, false, false, false, false, false, false, false, false, false] rfl rfl (by kernel_rfl) (fun _ _ _ h => h) (Or.inl ⟨by rfl, ?_⟩) ?_ ?_
          rotate_left
          · intro w'
            go_simp
            with_reducible rfl
          rotate_left
          · simp only [Act.put, List.setIfInBounds_toArray, List.set_cons_zero, List.set_cons_succ, i64_w, i32_w]
            rfl
          refine pure_ (i := 4) (N := some 46) (v := ?_) (a' := ?_) #[true, true, true, true, true, false, false, false, false, false, false, false, false] rfl rfl (by kernel_rfl) (fun _ _ _ h => h) (Or.inl ⟨by rfl, ?_⟩) ?_ ?_
          rotate_left
          · intro w'
            go_simp
            with_reducible rfl
          rotate_left
          · simp only [Act.put, List.setIfInBounds_toArray, List.set_cons_zero, List.set_cons_succ, i64_w, i32_w]
            rfl
          refine pure_ (i := 5) (N := some 47) (v := ?_) (a' := ?_) #[true, true, true, true, true, true, false, false, false, false, false, false, false] rfl rfl (by kernel_rfl) (fun _ _ _ h => h) (Or.inl ⟨by rfl, ?_⟩) ?_ ?_
          rotate_left
          · intro w'
            go_simp
            with_reducible rfl
          rotate_left
          · simp only [Act.put, List.setIfInBounds_toArray, List.set_cons_zero, List.set_cons_succ, i64_w, i32_w]
            rfl
          refine pure_ (i := 6) (N := some 48) (v := ?_) (a' := ?_) #[true, true, true, true, true, true, true, false, false, false, false, false, false] rfl rfl (by kernel_rfl) (fun _ _ _ h => h) (Or.inl ⟨by rfl, ?_⟩) ?_ ?_
          rotate_left
          · intro w'
            go_simp
            with_reducible rfl
          rotate_left
          · simp only [Act.put, List.setIfInBounds_toArray, List.set_cons_zero, List.set_cons_succ, i64_w, i32_w]
            rfl
          refine pure_ (i := 7) (N := some 49) (v := ?_) (a' := ?_) #[true, true, true, true, true, true, true, true, false, false, false, false, false] rfl rfl (by kernel_rfl) (fun _ _ _ h => h) (Or.inl ⟨by rfl, ?_⟩) ?_ ?_
          rotate_left
          · intro w'
            go_simp
            with_reducible rfl
          rotate_left
          · simp only [Act.put, List.setIfInBounds_toArray, List.set_cons_zero, List.set_cons_succ, i64_w, i32_w]
            rfl
          refine pure_ (i := 9) (N := some 51) (v := ?_) (a' := ?_) #[true, true, true, true, true, true, true, true, false, true, false, false, false] rfl rfl (by kernel_rfl) (fun _ _ _ h => h) (Or.inl ⟨by rfl, ?_⟩) ?_ ?_
          rotate_left
          · intro w'
            go_simp
            with_reducible rfl
          rotate_left
          · simp only [Act.put, List.setIfInBounds_toArray, List.set_cons_zero, List.set_cons_succ, i64_w, i32_w]
            rfl
          refine pure_ (i := 10) (N := some 52) (v := ?_) (a' := ?_) #[true, true, true, true, true, true, true, true, false, true, true, false, false] rfl rfl (by kernel_rfl) (fun _ _ _ h => h) (Or.inl ⟨by rfl, ?_⟩) ?_ ?_
          rotate_left
          · intro w'
            go_simp
            with_reducible rfl
          rotate_left
          · simp only [Act.put, List.setIfInBounds_toArray, List.set_cons_zero, List.set_cons_succ, i64_w, i32_w]
            rfl
          refine take_ (i := 8) (N := some 50) (v := ?_) (a' := ?_) #[true, true, true, true, true, true, true, true, true, true, true, false, false] rfl rfl (by kernel_rfl) (fun _ _ _ h => h) (Or.inl ⟨by rfl, ?_⟩) hHeld ?_ ?_
          rotate_left
          · rintro w' ⟨s0, s1⟩
            go_simp
            with_reducible rfl
          rotate_left
          · simp only [Act.put, List.setIfInBounds_toArray, List.set_cons_zero, List.set_cons_succ, i64_w, i32_w]
            rfl
          refine pure_ (i := 11) (N := some 53) (v := ?_) (a' := ?_) #[true, true, true, true, true, true, true, true, true, true, true, true, false] rfl rfl (by kernel_rfl) (fun _ _ _ h => h) (Or.inl ⟨by rfl, ?_⟩) ?_ ?_
          rotate_left
          · intro w'
            go_simp
            with_reducible rfl
          rotate_left
          · simp only [Act.put, List.setIfInBounds_toArray, List.set_cons_zero, List.set_cons_succ, i64_w, i32_w]
            rfl
          refine last_ (i := 12) (N := none) #[true, true, true, true, true, true, true, true, true, true, true, true, true] rfl rfl (by kernel_rfl) (by decide) (fun K hK => ?_)
          refine skip_ (w1 := ?_) (by rfl) rfl ?_ ?_
          rotate_left
          · go_simp
            rfl
          refine hK.out _ _ ?_
          clear hK K
          refine done_ (by kernel_rfl) ?_
          have F1b : Chunk ((wr.setCell ⟨w.heap.size, z * 2, none⟩ (.int .u8 pk)).setCell ⟨w.heap.size, z * 2 + 1, none⟩ (.int .u8 pl)).drew w.heap.size _ _ _ := F1.out.below (below_drew (Below.refl _ _)) F1.out.lt
          have B1b : Below w.heap.size w ((wr.setCell ⟨w.heap.size, z * 2, none⟩ (.int .u8 pk)).setCell ⟨w.heap.size, z * 2 + 1, none⟩ (.int .u8 pl)).drew := below_drew (Below.setCell (Below.setCell HF.out.below (Nat.le_refl _) _) (Nat.le_refl _) _)
          generalize ((wr.setCell ⟨w.heap.size, z * 2, none⟩ (.int .u8 pk)).setCell ⟨w.heap.size, z * 2 + 1, none⟩ (.int .u8 pl)).drew = w6 at F1b B1b ⊢
          clear c0 c1 cf0 cf1 q0 q1 q2 q3 q4 q5 p1
          obtain ⟨q0, q1, q2, q3, q4, q5⟩ := HQ.out _ B1b
          obtain ⟨c0, c1⟩ := F1b.atL z hin.2
          have cf0 := F1b.frz (8192 + z * 2)
          have cf1 := F1b.frz (8192 + z * 2 + 1)
          have F2 := Lib.hid (F1b.setL z hin.2 (pq, pr))
          have B1h := Lib.hid B1b
          clear F1b B1b
          --CUT5
          go_wp2_with fail
          refine start_ (n := 13) (S := fun w' => w'.cell? ⟨(ad.add (k * 6)).block, (ad.add (k * 6)).off + 4, none⟩ = some (.int .u8 pq) ∧ w'.cell? ⟨(ad.add (k * 6)).block, (ad.add (k * 6)).off + 4 + 1, none⟩ = some (.int .u8 pr)) (ds := [12]) #[false, false, false, false, false, false, false, false, false, false, false, false, false] (by kernel_rfl) rfl rfl ⟨q4, q5⟩ (fun hHeld => ?_)
          refine pure_ (i := 0) (N := some 54) (v := ?_) (a' := ?_) #[true, false, false, false, false, false, false, false, false, false, false, false, false] rfl rfl (by kernel_rfl) (fun _ _ _ h => h) (Or.inl ⟨by rfl, ?_⟩) ?_ ?_
          rotate_left
          · intro w'
            go_simp
            with_reducible rfl
          rotate_left
          · simp only [Act.put, List.setIfInBounds_toArray, List.set_cons_zero, List.set_cons_succ, i64_w, i32_w]
            rfl
          refine pure_ (i := 1) (N := some 55) (v := ?_) (a' := ?_) #[true, true, false, false, false, false, false, false, false, false, false, false, false] rfl rfl (by kernel_rfl) (fun _ _ _ h => h) (Or.inl ⟨by rfl, ?_⟩) ?_ ?_
          rotate_left
          · intro w'
            go_simp
            with_reducible rfl
          rotate_left
          · simp only [Act.put, List.setIfInBounds_toArray, List.set_cons_zero, List.set_cons_succ, i64_w, i32_w]
            rfl
          refine pure_ (i := 2) (N := some 56) (v := ?_) (a' := ?_) #[true, true, true, false, false, false, false, false, false, false, false, false, false] rfl rfl (by kernel_rfl) (fun _ _ _ h => h) (Or.inl ⟨by rfl, ?_⟩) ?_ ?_
          rotate_left
          · intro w'
            go_simp
            with_reducible rfl
          rotate_left
          · simp only [Act.put, List.setIfInBounds_toArray, List.set_cons_zero, List.set_cons_succ, i64_w, i32_w]
            rfl
          refine pure_ (i := 3) (N := some 57) (v := ?_) (a' := ?_) #[true, true, true, true, false, false, false, false, false, false, false, false, false] rfl rfl (by kernel_rfl) (fun _ _ _ h => h) (Or.inl ⟨by rfl, ?_⟩) ?_ ?_
          rotate_left
          · intro w'
            go_simp
            with_reducible rfl
          rotate_left
          · simp only [Act.put, List.setIfInBounds_toArray, List.set_cons_zero, List.set_cons_succ, i64_w, i32_w]
            rfl
          refine pure_ (i := 4) (N := some 58) (v := ?_) (a' := ?_) #[true, true, true, true, true, false, false, false, false, false, false, false, false] rfl rfl (by kernel_rfl) (fun _ _ _ h => h) (Or.inl ⟨by rfl, ?_⟩) ?_ ?_
          rotate_left
          · intro w'
            go_simp
            with_reducible rfl
          rotate_left
          · simp only [Act.put, List.setIfInBounds_toArray, List.set_cons_zero, List.set_cons_succ, i64_w, i32_w]
            rfl
          refine pure_ (i := 5) (N := some 59) (v := ?_) (a' := ?_) #[true, true, true, true, true, true, false, false, false, false, false, false, false] rfl rfl (by kernel_rfl) (fun _ _ _ h => h) (Or.inl ⟨by rfl, ?_⟩) ?_ ?_
          rotate_left
          · intro w'
            go_simp
            with_reducible rfl
          rotate_left
          · simp only [Act.put, List.setIfInBounds_toArray, List.set_cons_zero, List.set_cons_succ, i64_w, i32_w]
            rfl
          refine pure_ (i := 6) (N := some 60) (v := ?_) (a' := ?_) #[true, true, true, true, true, true, true, false, false, false, false, false, false] rfl rfl (by kernel_rfl) (fun _ _ _ h => h) (Or.inl ⟨by rfl, ?_⟩) ?_ ?_
          rotate_left
          · intro w'
            go_simp
            with_reducible rfl
          rotate_left
          · simp only [Act.put, List.setIfInBounds_toArray, List.set_cons_zero, List.set_cons_succ, i64_w, i32_w]
            rfl
          refine pure_ (i := 7) (N := some 61) (v := ?_) (a' := ?_) #[true, true, true, true, true, true, true, true, false, false, false, false, false] rfl rfl (by kernel_rfl) (fun _ _ _ h => h) (Or.inl ⟨by rfl, ?_⟩) ?_ ?_
          rotate_left
          · intro w'
            go_simp
            with_reducible rfl
          rotate_left
          · simp only [Act.put, List.setIfInBounds_toArray, List.set_cons_zero, List.set_cons_succ, i64_w, i32_w]
            rfl
          refine pure_ (i := 9) (N := some 63) (v := ?_) (a' := ?_) #[true, true, true, true, true, true, true, true, false, true, false, false, false] rfl rfl (by kernel_rfl) (fun _ _ _ h => h) (Or.inl ⟨by rfl, ?_⟩) ?_ ?_
          rotate_left
          · intro w'
            go_simp
            with_reducible rfl
          rotate_left
          · simp only [Act.put, List.setIfInBounds_toArray, List.set_cons_zero, List.set_cons_succ, i64_w, i32_w]
            rfl
          refine pure_ (i := 10) (N := some 64) (v := ?_) (a' := ?_) #[true, true, true, true, true, true, true, true, false, true, true, false, false] rfl rfl (by kernel_rfl) (fun _ _ _ h => h) (Or.inl ⟨by rfl, ?_⟩) ?_ ?_
          rotate_left
          · intro w'
            go_simp
            with_reducible rfl
          rotate_left
          · simp only [Act.put, List.setIfInBounds_toArray, List.set_cons_zero, List.set_cons_succ, i64_w, i32_w]
            rfl
          refine take_ (i := 8) (N := some 62) (v := ?_) (a' := ?_) #[true, true, true, true, true, true, true, true, true, true, true, false, false] rfl rfl (by kernel_rfl) (fun _ _ _ h => h) (Or.inl ⟨by rfl, ?_⟩) hHeld ?_ ?_
          rotate_left
          · rintro w' ⟨s0, s1⟩
            go_simp
            with_reducible rfl
          rotate_left
          · simp only [Act.put, List.setIfInBounds_toArray, List.set_cons_zero, List.set_cons_succ, i64_w, i32_w]
            rfl
          refine pure_ (i := 11) (N := some 65) (v := ?_) (a' := ?_) #[true, true, true, true, true, true, true, true, true, true, true, true, false] rfl rfl (by kernel_rfl) (fun _ _ _ h => h) (Or.inl ⟨by rfl, ?_⟩) ?_ ?_
          rotate_left
          · intro w'
            go_simp
            with_reducible rfl
          rotate_left
          · simp only [Act.put, List.setIfInBounds_toArray, List.set_cons_zero, List.set_cons_succ, i64_w, i32_w]
            rfl
          refine last_ (i := 12) (N := none) #[true, true, true, true, true, true, true, true, true, true, true, true, true] rfl rfl (by kernel_rfl) (by decide) (fun K hK => ?_)
          refine skip_ (w1 := ?_) (by rfl) rfl ?_ ?_
          rotate_left
          · go_simp
            rfl
          refine hK.out _ _ ?_
          clear hK K
          refine done_ (by kernel_rfl) ?_
          have F2b : Chunk ((w6.setCell ⟨w.heap.size, 8192 + z * 2, none⟩ (.int .u8 pq)).setCell ⟨w.heap.size, 8192 + z * 2 + 1, none⟩ (.int .u8 pr)).drew w.heap.size _ _ _ := F2.out.below (below_drew (Below.refl _ _)) F2.out.lt
          have B2b : Below w.heap.size w ((w6.setCell ⟨w.heap.size, 8192 + z * 2, none⟩ (.int .u8 pq)).setCell ⟨w.heap.size, 8192 + z * 2 + 1, none⟩ (.int .u8 pr)).drew := below_drew (Below.setCell (Below.setCell B1h.out (Nat.le_refl _) _) (Nat.le_refl _) _)
          generalize ((w6.setCell ⟨w.heap.size, 8192 + z * 2, none⟩ (.int .u8 pq)).setCell ⟨w.heap.size, 8192 + z * 2 + 1, none⟩ (.int .u8 pr)).drew = w7 at F2b B2b ⊢
          clear c0 c1 cf0 cf1 q0 q1 q2 q3 q4 q5
          have HG := Lib.hid (⟨B2b, by rw [fillN, fillN, ← HZ.out]; exact F2b⟩ : Fi w w7 w.heap.size C L at_ (i + 1) (pk, pl) (pq, pr))
          clear F2b B2b
          go_wp2
          go_roundw
          case rel => exact ⟨i + 1, HI1.out, by go_num, ⟨HG.out⟩⟩
          case measure => simp [intOf]; omega
        · --CUT2
          have him : i = many (pa, pm, (pk, pl), (pq, pr)) := many_end z at_ i _ pm hmany hz hi hin
          have HB2 := Lib.hid hf.below
          have HC2 := Lib.hid (show Chunk wr w.heap.size (madeP (ps.take (k + 1))).1 (madeP (ps.take (k + 1))).2 (.slice none 0 0) by
            rw [HST.out.trans (step_at C L pa pm (pk, pl) (pq, pr) at_ i HAT.out him)]
            exact hf.ch)
          clear hf him hmany hi
          have hk2 : k + 1 ≤ ps.length ∧ k + 1 ≤ 300 := ⟨hlt.1, hlt.2⟩
          by_cases h1 : (i : Int) < pm
          · --CUT3
            have he1 := decide_eq_true h1
            have he2 := decide_eq_false (show ¬ (z : Int) < 4096 by omega)
            have he3 := decide_eq_false (show ¬ (at_ : Int) + (i : Int) < 4096 by omega)
            clear hz hin
            go_wp2
            go_roundw
            case rel => exact ⟨k + 1, hk2.1, hk2.2, by go_num, ⟨HB2.out⟩, ⟨HC2.out⟩⟩
            case measure => simp [intOf]; omega
          · --CUT4
            have he1 := decide_eq_false h1
            clear hz hin
            go_wp2
            go_roundw
            case rel => exact ⟨k + 1, hk2.1, hk2.2, by go_num, ⟨HB2.out⟩, ⟨HC2.out⟩⟩
            case measure => simp [intOf]; omega
    · have hkt : ps.take k = ps.take 300 := by
        by_cases h : k < ps.length
        · rw [show k = 300 by omega]
        · rw [List.take_of_length_le (by omega), List.take_of_length_le (by omega)]
      rw [hkt] at hch
      have HCE := Lib.hid hch
      have HTE := Lib.hid (C_takeT (Kd.C_below HT.out hb) (min T.length 5000) (by omega))
      clear HC hb hch hw5 hand hkt
      have ct := HCE.out.atT
      obtain ⟨m, hmm⟩ : ∃ m : Nat, m = min T.length 5000 := ⟨_, rfl⟩
      have hts : T.take (min T.length 5000) = T.take 5000 := by
        by_cases h : T.length ≤ 5000
        · rw [Nat.min_eq_left h, List.take_length, List.take_of_length_le h]
        · rw [Nat.min_eq_right (by omega)]
      rw [hts, ← hmm] at HTE
      have hml : (T.take 5000).length = m := by rw [List.length_take]; omega
      have kmin : (if (5000 : Int) < (T.length : Int) then (5000 : Int) else (T.length : Int)) = (m : Int) := by split <;> omega
      have hcut := cut_to (P := Try.prog) 23 48 .i64 Try.underlying23 (info_parts infoTick).choose_spec.1 tA T.length tc (m : Int) (by omega) (by omega) hc
      simp only [Int.toNat_natCast] at hcut
      have hm5 : m ≤ 5000 := by omega
      obtain ⟨T5, hT5⟩ : ∃ T5, T.take 5000 = T5 := ⟨_, rfl⟩
      rw [hT5] at HTE hml
      have HT5 := Lib.hid hT5
      have READ := Lib.hid (fun W (hb : Below wr.heap.size wr W) => (ReadsRow.imp_ HTE hb (fun x cs h => kT_open h) : ReadsRow (fun x cs => cs = [.int .i64 x.1, .int .i64 x.2]) 2 W tA m T5))
      have HBE := HB
      clear hmm hts hT5 HTE
      by_cases h1 : k < ps.length
      · have hd1 := decide_eq_true (show (k : Int) < (ps.length : Int) by omega)
        have hd2 := decide_eq_false (show ¬ (k : Int) < 300 by omega)
        clear hlt
        go_wp2_with fail
        refine start_ (n := 14) (S := fun w' => w'.cell? ⟨w.heap.size, 16384, none⟩ = some (.slice none 0 0)) (ds := [13]) #[false, false, false, false, false, false, false, false, false, false, false, false, false, false] (by kernel_rfl) rfl rfl (ct) (fun hHeld => ?_)
        refine pure_ (i := 0) (N := some 66) (v := ?_) (a' := ?_) #[true, false, false, false, false, false, false, false, false, false, false, false, false, false] rfl rfl (by kernel_rfl) (fun _ _ _ h => h) (Or.inl ⟨by rfl, ?_⟩) ?_ ?_
        rotate_left
        · intro w'
          go_simp
          with_reducible rfl
        rotate_left
        · simp only [Act.put, List.setIfInBounds_toArray, List.set_cons_zero, List.set_cons_succ, i64_w, i32_w]
          rfl
        refine pure_ (i := 1) (N := some 67) (v := ?_) (a' := ?_) #[true, true, false, false, false, false, false, false, false, false, false, false, false, false] rfl rfl (by kernel_rfl) (fun _ _ _ h => h) (Or.inl ⟨by rfl, ?_⟩) ?_ ?_
        rotate_left
        · intro w'
          go_simp
          with_reducible rfl
        rotate_left
        · simp only [Act.put, List.setIfInBounds_toArray, List.set_cons_zero, List.set_cons_succ, i64_w, i32_w]
          rfl
        refine pure_ (i := 2) (N := some 68) (v := ?_) (a' := ?_) #[true, true, true, false, false, false, false, false, false, false, false, false, false, false] rfl rfl (by kernel_rfl) (fun _ _ _ h => h) (Or.inl ⟨by rfl, ?_⟩) ?_ ?_
        rotate_left
        · intro w'
          go_simp
          with_reducible rfl
        rotate_left
        · simp only [Act.put, List.setIfInBounds_toArray, List.set_cons_zero, List.set_cons_succ, i64_w, i32_w]
          rfl
        refine pure_ (i := 3) (N := some 69) (v := ?_) (a' := ?_) #[true, true, true, true, false, false, false, false, false, false, false, false, false, false] rfl rfl (by kernel_rfl) (fun _ _ _ h => h) (Or.inl ⟨by rfl, ?_⟩) ?_ ?_
        rotate_left
        · intro w'
          go_simp
          with_reducible rfl
        rotate_left
        · simp only [Act.put, List.setIfInBounds_toArray, List.set_cons_zero, List.set_cons_succ, i64_w, i32_w]
          rfl
        refine pure_ (i := 5) (N := some 71) (v := ?_) (a' := ?_) #[true, true, true, true, false, true, false, false, false, false, false, false, false, false] rfl rfl (by kernel_rfl) (fun _ _ _ h => h) (Or.inl ⟨by rfl, ?_⟩) ?_ ?_
        rotate_left
        · intro w'
          go_simp
          with_reducible rfl
        rotate_left
        · simp only [Act.put, List.setIfInBounds_toArray, List.set_cons_zero, List.set_cons_succ, i64_w, i32_w]
          rfl
        refine pure_ (i := 6) (N := some 72) (v := ?_) (a' := ?_) #[true, true, true, true, false, true, true, false, false, false, false, false, false, false] rfl rfl (by kernel_rfl) (fun _ _ _ h => h) (Or.inl ⟨by rfl, ?_⟩) ?_ ?_
        rotate_left
        · intro w'
          go_simp
          with_reducible rfl
        rotate_left
        · simp only [Act.put, List.setIfInBounds_toArray, List.set_cons_zero, List.set_cons_succ, i64_w, i32_w]
          rfl
        refine pure_ (i := 7) (N := some 73) (v := ?_) (a' := ?_) #[true, true, true, true, false, true, true, true, false, false, false, false, false, false] rfl rfl (by kernel_rfl) (fun _ _ _ h => h) (Or.inl ⟨by rfl, ?_⟩) ?_ ?_
        rotate_left
        · intro w'
          go_simp
          with_reducible rfl
        rotate_left
        · simp only [Act.put, List.setIfInBounds_toArray, List.set_cons_zero, List.set_cons_succ, i64_w, i32_w]
          rfl
        refine pure_ (i := 8) (N := some 74) (v := ?_) (a' := ?_) #[true, true, true, true, false, true, true, true, true, false, false, false, false, false] rfl rfl (by kernel_rfl) (fun _ _ _ h => h) (Or.inl ⟨by rfl, ?_⟩) ?_ ?_
        rotate_left
        · intro w'
          go_simp
          with_reducible rfl
        rotate_left
        · simp only [Act.put, List.setIfInBounds_toArray, List.set_cons_zero, List.set_cons_succ, i64_w, i32_w]
          rfl
        refine pure_ (i := 9) (N := some 75) (v := ?_) (a' := ?_) #[true, true, true, true, false, true, true, true, true, true, false, false, false, false] rfl rfl (by kernel_rfl) (fun _ _ _ h => h) (Or.inl ⟨by rfl, ?_⟩) ?_ ?_
        rotate_left
        · intro w'
          go_simp
          with_reducible rfl
        rotate_left
        · simp only [Act.put, List.setIfInBounds_toArray, List.set_cons_zero, List.set_cons_succ, i64_w, i32_w]
          rfl
        refine take_ (i := 4) (N := some 70) (v := ?_) (a' := ?_) #[true, true, true, true, true, true, true, true, true, true, false, false, false, false] rfl rfl (by kernel_rfl) (fun _ _ _ h => h) (Or.inl ⟨by rfl, ?_⟩) hHeld ?_ ?_
        rotate_left
        · intro w' s0
          go_simp
          with_reducible rfl
        rotate_left
        · simp only [Act.put, List.setIfInBounds_toArray, List.set_cons_zero, List.set_cons_succ, i64_w, i32_w]
          rfl
        refine one_ (i := 10) (N := some 76) #[true, true, true, true, true, true, true, true, true, true, true, false, false, false] rfl rfl (by kernel_rfl) (by decide) (fun K hK => ?_)
        refine Kd.R_append_rows_step kT (Rr := fun x cs => cs = [.int .i64 x.1, .int .i64 x.2]) w.heap.size (by rfl) (.tmp 70) (.tmp 75) 23 48 (.agg #[.int .i64 0, .int .i64 0]) 16 rfl Try.underlying23 infoTick (by rfl) (by decide) (by decide) (.slice none 0 0) [] T5 tA m tc (fun k => k ≠ w.heap.size) (fun _ => False) rfl rfl (Kd.R_nil _ _ _ _ _) (READ.out _ (below_drew (Below.refl _ _))) (fun x cs h => ⟨[_], [_], h, rfl, rfl⟩) (fun _ h => h.elim) (fun q hq => by have := HCE.out.lt; simp only [World.size_drew] at hq; omega) (below_drew HBE.out) (by exact HBE.out.size) (by simp only [List.length_nil]; omega) ?_
        intro v9 w9 hr9 hb9 hg9 hat9
        have HC9 := Lib.hid (HCE.out.grown (World.grownBy.trans (gofBelow (row := none) (below_drew (Below.refl _ _))) hg9) (by simp [Value.ownBlock]))
        obtain ⟨A9, c9, rfl, hc9, hd9⟩ := Kd.R_reads hr9
        have HR9 := Lib.hid hr9
        have HB9 := Lib.hid hb9
        clear hr9 hd9 hb9 hg9 hat9
        simp only [List.nil_append] at hc9 ⊢
        have t9 := HC9.out.atT
        have cf9 := HC9.out.frz 16384
        refine hK.out _ _ (t9) (fun hHeld => ?_)
        clear hK K
        refine norm_ (a' := ?_) ?_ ?_
        rotate_left
        · show Act.put _ (some 76) _ = _
          simp only [Act.put, List.setIfInBounds_toArray, List.set_cons_zero, List.set_cons_succ, i64_w, i32_w]
          rfl
        refine pure_ (i := 11) (N := some 77) (v := ?_) (a' := ?_) #[true, true, true, true, true, true, true, true, true, true, true, true, false, false] rfl rfl (by kernel_rfl) (fun _ _ _ h => h) (Or.inl ⟨by rfl, ?_⟩) ?_ ?_
        rotate_left
        · intro w'
          go_simp
          with_reducible rfl
        rotate_left
        · simp only [Act.put, List.setIfInBounds_toArray, List.set_cons_zero, List.set_cons_succ, i64_w, i32_w]
          rfl
        refine pure_ (i := 12) (N := some 78) (v := ?_) (a' := ?_) #[true, true, true, true, true, true, true, true, true, true, true, true, true, false] rfl rfl (by kernel_rfl) (fun _ _ _ h => h) (Or.inl ⟨by rfl, ?_⟩) ?_ ?_
        rotate_left
        · intro w'
          go_simp
          with_reducible rfl
        rotate_left
        · simp only [Act.put, List.setIfInBounds_toArray, List.set_cons_zero, List.set_cons_succ, i64_w, i32_w]
          rfl
        refine last_ (i := 13) (N := none) #[true, true, true, true, true, true, true, true, true, true, true, true, true, true] rfl rfl (by kernel_rfl) (by decide) (fun K hK => ?_)
        refine skip_ (w1 := ?_) (by rfl) rfl ?_ ?_
        rotate_left
        · go_simp
          rfl
        refine hK.out _ _ ?_
        clear hK K
        refine done_ (by kernel_rfl) ?_
        go_wp2
        go_ret
        refine ⟨.slice A9 m c9, rfl, ?_, ?_, ?_⟩
        · exact (HC9.out.setT _)
        · exact ⟨A9, c9, by rw [HT5.out, hml], by rw [HT5.out]; exact hc9, by
            have h := Kd.R_reads' (Kd.R_far HR9.out (p := ⟨w.heap.size, 16384, none⟩) (fun k hk => hk) (.slice A9 m c9))
            rw [HT5.out]
            exact h.2.2⟩
        · exact Below.setCell HB9.out (Nat.le_refl _) _
      · have hd1 := decide_eq_false (show ¬ (k : Int) < (ps.length : Int) by omega)
        clear hlt
        go_wp2_with fail
        refine start_ (n := 14) (S := fun w' => w'.cell? ⟨w.heap.size, 16384, none⟩ = some (.slice none 0 0)) (ds := [13]) #[false, false, false, false, false, false, false, false, false, false, false, false, false, false] (by kernel_rfl) rfl rfl (ct) (fun hHeld => ?_)
        refine pure_ (i := 0) (N := some 66) (v := ?_) (a' := ?_) #[true, false, false, false, false, false, false, false, false, false, false, false, false, false] rfl rfl (by kernel_rfl) (fun _ _ _ h => h) (Or.inl ⟨by rfl, ?_⟩) ?_ ?_
        rotate_left
        · intro w'
          go_simp
          with_reducible rfl
        rotate_left
        · simp only [Act.put, List.setIfInBounds_toArray, List.set_cons_zero, List.set_cons_succ, i64_w, i32_w]
          rfl
        refine pure_ (i := 1) (N := some 67) (v := ?_) (a' := ?_) #[true, true, false, false, false, false, false, false, false, false, false, false, false, false] rfl rfl (by kernel_rfl) (fun _ _ _ h => h) (Or.inl ⟨by rfl, ?_⟩) ?_ ?_
        rotate_left
        · intro w'
          go_simp
          with_reducible rfl
        rotate_left
        · simp only [Act.put, List.setIfInBounds_toArray, List.set_cons_zero, List.set_cons_succ, i64_w, i32_w]
          rfl
        refine pure_ (i := 2) (N := some 68) (v := ?_) (a' := ?_) #[true, true, true, false, false, false, false, false, false, false, false, false, false, false] rfl rfl (by kernel_rfl) (fun _ _ _ h => h) (Or.inl ⟨by rfl, ?_⟩) ?_ ?_
        rotate_left
        · intro w'
          go_simp
          with_reducible rfl
        rotate_left
        · simp only [Act.put, List.setIfInBounds_toArray, List.set_cons_zero, List.set_cons_succ, i64_w, i32_w]
          rfl
        refine pure_ (i := 3) (N := some 69) (v := ?_) (a' := ?_) #[true, true, true, true, false, false, false, false, false, false, false, false, false, false] rfl rfl (by kernel_rfl) (fun _ _ _ h => h) (Or.inl ⟨by rfl, ?_⟩) ?_ ?_
        rotate_left
        · intro w'
          go_simp
          with_reducible rfl
        rotate_left
        · simp only [Act.put, List.setIfInBounds_toArray, List.set_cons_zero, List.set_cons_succ, i64_w, i32_w]
          rfl
        refine pure_ (i := 5) (N := some 71) (v := ?_) (a' := ?_) #[true, true, true, true, false, true, false, false, false, false, false, false, false, false] rfl rfl (by kernel_rfl) (fun _ _ _ h => h) (Or.inl ⟨by rfl, ?_⟩) ?_ ?_
        rotate_left
        · intro w'
          go_simp
          with_reducible rfl
        rotate_left
        · simp only [Act.put, List.setIfInBounds_toArray, List.set_cons_zero, List.set_cons_succ, i64_w, i32_w]
          rfl
        refine pure_ (i := 6) (N := some 72) (v := ?_) (a' := ?_) #[true, true, true, true, false, true, true, false, false, false, false, false, false, false] rfl rfl (by kernel_rfl) (fun _ _ _ h => h) (Or.inl ⟨by rfl, ?_⟩) ?_ ?_
        rotate_left
        · intro w'
          go_simp
          with_reducible rfl
        rotate_left
        · simp only [Act.put, List.setIfInBounds_toArray, List.set_cons_zero, List.set_cons_succ, i64_w, i32_w]
          rfl
        refine pure_ (i := 7) (N := some 73) (v := ?_) (a' := ?_) #[true, true, true, true, false, true, true, true, false, false, false, false, false, false] rfl rfl (by kernel_rfl) (fun _ _ _ h => h) (Or.inl ⟨by rfl, ?_⟩) ?_ ?_
        rotate_left
        · intro w'
          go_simp
          with_reducible rfl
        rotate_left
        · simp only [Act.put, List.setIfInBounds_toArray, List.set_cons_zero, List.set_cons_succ, i64_w, i32_w]
          rfl
        refine pure_ (i := 8) (N := some 74) (v := ?_) (a' := ?_) #[true, true, true, true, false, true, true, true, true, false, false, false, false, false] rfl rfl (by kernel_rfl) (fun _ _ _ h => h) (Or.inl ⟨by rfl, ?_⟩) ?_ ?_
        rotate_left
        · intro w'
          go_simp
          with_reducible rfl
        rotate_left
        · simp only [Act.put, List.setIfInBounds_toArray, List.set_cons_zero, List.set_cons_succ, i64_w, i32_w]
          rfl
        refine pure_ (i := 9) (N := some 75) (v := ?_) (a' := ?_) #[true, true, true, true, false, true, true, true, true, true, false, false, false, false] rfl rfl (by kernel_rfl) (fun _ _ _ h => h) (Or.inl ⟨by rfl, ?_⟩) ?_ ?_
        rotate_left
        · intro w'
          go_simp
          with_reducible rfl
        rotate_left
        · simp only [Act.put, List.setIfInBounds_toArray, List.set_cons_zero, List.set_cons_succ, i64_w, i32_w]
          rfl
        refine take_ (i := 4) (N := some 70) (v := ?_) (a' := ?_) #[true, true, true, true, true, true, true, true, true, true, false, false, false, false] rfl rfl (by kernel_rfl) (fun _ _ _ h => h) (Or.inl ⟨by rfl, ?_⟩) hHeld ?_ ?_
        rotate_left
        · intro w' s0
          go_simp
          with_reducible rfl
        rotate_left
        · simp only [Act.put, List.setIfInBounds_toArray, List.set_cons_zero, List.set_cons_succ, i64_w, i32_w]
          rfl
        refine one_ (i := 10) (N := some 76) #[true, true, true, true, true, true, true, true, true, true, true, false, false, false] rfl rfl (by kernel_rfl) (by decide) (fun K hK => ?_)
        refine Kd.R_append_rows_step kT (Rr := fun x cs => cs = [.int .i64 x.1, .int .i64 x.2]) w.heap.size (by rfl) (.tmp 70) (.tmp 75) 23 48 (.agg #[.int .i64 0, .int .i64 0]) 16 rfl Try.underlying23 infoTick (by rfl) (by decide) (by decide) (.slice none 0 0) [] T5 tA m tc (fun k => k ≠ w.heap.size) (fun _ => False) rfl rfl (Kd.R_nil _ _ _ _ _) (READ.out _ (below_drew (Below.refl _ _))) (fun x cs h => ⟨[_], [_], h, rfl, rfl⟩) (fun _ h => h.elim) (fun q hq => by have := HCE.out.lt; simp only [World.size_drew] at hq; omega) (below_drew HBE.out) (by exact HBE.out.size) (by simp only [List.length_nil]; omega) ?_
        intro v9 w9 hr9 hb9 hg9 hat9
        have HC9 := Lib.hid (HCE.out.grown (World.grownBy.trans (gofBelow (row := none) (below_drew (Below.refl _ _))) hg9) (by simp [Value.ownBlock]))
        obtain ⟨A9, c9, rfl, hc9, hd9⟩ := Kd.R_reads hr9
        have HR9 := Lib.hid hr9
        have HB9 := Lib.hid hb9
        clear hr9 hd9 hb9 hg9 hat9
        simp only [List.nil_append] at hc9 ⊢
        have t9 := HC9.out.atT
        have cf9 := HC9.out.frz 16384
        refine hK.out _ _ (t9) (fun hHeld => ?_)
        clear hK K
        refine norm_ (a' := ?_) ?_ ?_
        rotate_left
        · show Act.put _ (some 76) _ = _
          simp only [Act.put, List.setIfInBounds_toArray, List.set_cons_zero, List.set_cons_succ, i64_w, i32_w]
          rfl
        refine pure_ (i := 11) (N := some 77) (v := ?_) (a' := ?_) #[true, true, true, true, true, true, true, true, true, true, true, true, false, false] rfl rfl (by kernel_rfl) (fun _ _ _ h => h) (Or.inl ⟨by rfl, ?_⟩) ?_ ?_
        rotate_left
        · intro w'
          go_simp
          with_reducible rfl
        rotate_left
        · simp only [Act.put, List.setIfInBounds_toArray, List.set_cons_zero, List.set_cons_succ, i64_w, i32_w]
          rfl
        refine pure_ (i := 12) (N := some 78) (v := ?_) (a' := ?_) #[true, true, true, true, true, true, true, true, true, true, true, true, true, false] rfl rfl (by kernel_rfl) (fun _ _ _ h => h) (Or.inl ⟨by rfl, ?_⟩) ?_ ?_
        rotate_left
        · intro w'
          go_simp
          with_reducible rfl
        rotate_left
        · simp only [Act.put, List.setIfInBounds_toArray, List.set_cons_zero, List.set_cons_succ, i64_w, i32_w]
          rfl
        refine last_ (i := 13) (N := none) #[true, true, true, true, true, true, true, true, true, true, true, true, true, true] rfl rfl (by kernel_rfl) (by decide) (fun K hK => ?_)
        refine skip_ (w1 := ?_) (by rfl) rfl ?_ ?_
        rotate_left
        · go_simp
          rfl
        refine hK.out _ _ ?_
        clear hK K
        refine done_ (by kernel_rfl) ?_
        go_wp2
        go_ret
        refine ⟨.slice A9 m c9, rfl, ?_, ?_, ?_⟩
        · exact (HC9.out.setT _)
        · exact ⟨A9, c9, by rw [HT5.out, hml], by rw [HT5.out]; exact hc9, by
            have h := Kd.R_reads' (Kd.R_far HR9.out (p := ⟨w.heap.size, 16384, none⟩) (fun k hk => hk) (.slice A9 m c9))
            rw [HT5.out]
            exact h.2.2⟩
        · exact Below.setCell HB9.out (Nat.le_refl _) _
end Go.Proofs.Ytkecppgodmbmlaa.PK

namespace Go.Proofs.Ytkecppgodmbmlaa.PK
set_option linter.unusedVariables false
theorem getD_set (l : List Pr) (i j : Nat) (p : Pr) (hi : i < l.length) : (l.set i p).getD j P0 = if i = j then p else l.getD j P0 := by
  rw [List.getD_eq_getElem?_getD, List.getElem?_set, List.getD_eq_getElem?_getD]
  by_cases h : i = j
  · subst h; simp [hi]
  · simp [h]
/-- One place set: may it be? -/
theorem may_set (C L T T' : List Pr) (hC : C.length = 4096) (hL : L.length = 4096) (h : mayB C L T' = true) (a : Nat) (ha : a < 4096) (c l : Pr) :
    mayB (C.set a c) (L.set a l) T = ((mayK c && (decide (l.1 ≤ 15) && decide (l.2 ≤ 15))) && tOk (-1) T) := by
  unfold mayB at h ⊢
  rw [Bool.and_eq_true, List.all_eq_true] at h
  suffices hA : (List.range 4096).all (okAt (C.set a c) (L.set a l)) = (mayK c && (decide (l.1 ≤ 15) && decide (l.2 ≤ 15))) by rw [hA]
  have e : ∀ i, okAt (C.set a c) (L.set a l) i = if a = i then mayK c && (decide (l.1 ≤ 15) && decide (l.2 ≤ 15)) else okAt C L i := by
    intro i
    unfold okAt
    rw [getD_set _ _ _ _ (by omega), getD_set _ _ _ _ (by omega)]
    split <;> rfl
  cases hb : (mayK c && (decide (l.1 ≤ 15) && decide (l.2 ≤ 15))) with
  | true =>
    rw [List.all_eq_true]
    intro i hi
    rw [e, hb]
    split
    · rfl
    · exact h.1 i hi
  | false =>
    rw [← Bool.not_eq_true, List.all_eq_true]
    intro hh
    have := hh a (List.mem_range.2 ha)
    rw [e, if_pos rfl, hb] at this
    cases this
theorem u8_set {l : List Pr} (h : U8 l) (i : Nat) (p : Pr) (hp : (0 ≤ p.1 ∧ p.1 < 256) ∧ 0 ≤ p.2 ∧ p.2 < 256) : U8 (l.set i p) := fun q hq => by
  rcases List.mem_or_eq_of_mem_set hq with h1 | rfl
  · exact h q h1
  · exact hp
theorem u8_fill {l : List Pr} (h : U8 l) (a : Nat) (p : Pr) (hp : (0 ≤ p.1 ∧ p.1 < 256) ∧ 0 ≤ p.2 ∧ p.2 < 256) : ∀ m, U8 (fillN a p m l)
  | 0 => h
  | m + 1 => u8_set (u8_fill h a p hp m) _ _ hp
/-- Parts of bytes. -/
def PU8 (ps : List Pt) : Prop := ∀ p ∈ ps, U8 [p.2.2.1] ∧ U8 [p.2.2.2]
theorem made_u8 : ∀ (ps : List Pt), PU8 ps → U8 (madeP ps).1 ∧ U8 (madeP ps).2 := by
  have : ∀ (l : List Pt) (s : List Pr × List Pr), PU8 l → U8 s.1 ∧ U8 s.2 → U8 (l.foldl stepM s).1 ∧ U8 (l.foldl stepM s).2 := by
    intro l
    induction l with
    | nil => exact fun s _ h => h
    | cons p l ih =>
      intro s hp h
      have h0 := hp p (List.mem_cons_self)
      exact ih _ (fun q hq => hp q (List.mem_cons_of_mem _ hq)) ⟨u8_fill h.1 _ _ (h0.1 _ (List.mem_singleton.2 rfl)) _, u8_fill h.2 _ _ (h0.2 _ (List.mem_singleton.2 rfl)) _⟩
  exact fun ps h => this ps _ h ⟨air_u8, air_u8⟩
theorem pu8_take {ps : List Pt} (h : PU8 ps) (n : Nat) : PU8 (ps.take n) := fun p hp => h p (List.mem_of_mem_take hp)
end Go.Proofs.Ytkecppgodmbmlaa.PK

namespace Go.Proofs.Ytkecppgodmbmlaa.PK
open Go.Proofs.Ytkecppgodmbmlaa.CD
set_option linter.unusedVariables false
theorem fillN_all (x : Pr) : ∀ (m : Nat) (l : List Pr), m ≤ l.length → fillN 0 x m l = List.replicate m x ++ l.drop m
  | 0, l, _ => rfl
  | m + 1, l, h => by
    rw [fillN, fillN_all x m l (by omega), List.set_append_right _ _ (by rw [List.length_replicate]; omega), List.length_replicate, List.replicate_succ', List.append_assoc, Nat.zero_add, Nat.sub_self, List.drop_eq_getElem_cons (by omega : m < l.length)]
    rfl
theorem made_one (c l : Pr) : madeP [((0 : Int), (4096 : Int), c, l)] = (List.replicate 4096 c, List.replicate 4096 l) := by
  show stepM (air, air) (0, 4096, c, l) = _
  unfold stepM many
  have e1 : ((0 : Int) % 4096).toNat = 0 := by decide
  have e2 : min (4096 : Int).toNat (4096 - 0) = 4096 := by decide
  simp only [e1, e2]
  rw [fillN_all c 4096 air (by rw [air_len]; exact Nat.le_refl _), fillN_all l 4096 air (by rw [air_len]; exact Nat.le_refl _), List.drop_of_length_le (by rw [air_len]; exact Nat.le_refl _), List.append_nil, List.append_nil]
theorem made_two (c l q r : Pr) (a : Nat) (ha : a < 4096) (ya : Int) (hy : (a : Int) = ya % 4096) : madeP [((0 : Int), (4096 : Int), c, l), (ya, (1 : Int), q, r)] = ((List.replicate 4096 c).set a q, (List.replicate 4096 l).set a r) := by
  rw [show [((0 : Int), (4096 : Int), c, l), (ya, (1 : Int), q, r)] = [((0 : Int), (4096 : Int), c, l)] ++ [(ya, (1 : Int), q, r)] from rfl, madeP_snoc, made_one]
  unfold stepM many
  have e1 : (ya % 4096).toNat = a := by omega
  have e2 : min (1 : Int).toNat (4096 - a) = 1 := by
    show min 1 _ = 1
    omega
  simp only [e1, e2]
  rfl
theorem rep_set (p q : Pr) : ∀ (a b : Nat), (List.replicate (a + (b + 1)) p).set a q = List.replicate a p ++ q :: List.replicate b p
  | 0, b => by rw [Nat.zero_add, List.replicate_succ]; rfl
  | a + 1, b => by rw [show a + 1 + (b + 1) = (a + (b + 1)) + 1 by omega, List.replicate_succ, List.set_cons_succ, rep_set p q a b]; rfl
theorem steps_rep (P : List Pr) (p : Pr) (j : Nat) (h : lk 0 P p = some j) : ∀ (n : Nat) (cs : List Int), (List.replicate n p).foldl stepP (P, cs) = (P, cs ++ List.replicate n (j : Int))
  | 0, cs => by simp
  | n + 1, cs => by
    rw [List.replicate_succ, List.foldl_cons, show stepP (P, cs) p = (P, cs ++ [(j : Int)]) by unfold stepP; rw [h], steps_rep P p j h n, List.append_assoc]
    rfl
theorem codes_mid (p q : Pr) (a b : Nat) : ∃ (P : List Pr) (x y : Int), codes (List.replicate a p ++ q :: List.replicate b p) = (P, List.replicate a x ++ y :: List.replicate b x) ∧ 1 ≤ P.length ∧ P.length ≤ 2 := by
  unfold codes
  rw [List.foldl_append, List.foldl_cons]
  cases a with
  | zero =>
    show ∃ (P : List Pr) (x y : Int), (List.replicate b p).foldl stepP ([q], [0]) = _ ∧ _
    by_cases h : p = q
    · subst h
      exact ⟨[p], 0, 0, by rw [steps_rep [p] p 0 (by simp [lk])]; rfl, by simp, by simp⟩
    · cases b with
      | zero => exact ⟨[q], 0, 0, rfl, by simp, by simp⟩
      | succ b =>
        rw [List.replicate_succ, List.foldl_cons, show stepP ([q], [0]) p = ([q, p], [0, 1]) by unfold stepP; simp [lk, h]]
        exact ⟨[q, p], 1, 0, by rw [steps_rep [q, p] p 1 (by simp [lk, h])]; rfl, by simp, by simp⟩
  | succ a =>
    have e := codes_rep p a
    unfold codes at e
    rw [e]
    by_cases h : q = p
    · subst h
      rw [show stepP ([q], List.replicate (a + 1) 0) q = ([q], List.replicate (a + 1) 0 ++ [0]) by unfold stepP; simp [lk]]
      exact ⟨[q], 0, 0, by rw [steps_rep [q] q 0 (by simp [lk]), List.append_assoc]; rfl, by simp, by simp⟩
    · rw [show stepP ([p], List.replicate (a + 1) 0) q = ([p, q], List.replicate (a + 1) 0 ++ [1]) by unfold stepP; simp [lk, h]]
      exact ⟨[p, q], 0, 1, by rw [steps_rep [p, q] p 0 (by simp [lk]), List.append_assoc]; rfl, by simp, by simp⟩
theorem num_12 (n : Nat) (h : n < 16384) : 1 ≤ (num n).length ∧ (num n).length ≤ 2 := by
  refine ⟨num_pos n, ?_⟩
  unfold num
  rw [numF]
  split
  · simp
  · rw [numF]
    rw [if_pos (by omega)]
    simp
theorem row_mid (a b : Nat) (h : a + (b + 1) = 4096) (x y : Int) : 3 ≤ (RU.row (List.replicate a x ++ y :: List.replicate b x)).length ∧ (RU.row (List.replicate a x ++ y :: List.replicate b x)).length ≤ 8 := by
  by_cases e : y = x
  · subst e
    rw [← List.replicate_succ, List.replicate_append_replicate, h, row_rep 4095]
    have : (num (4095 + 1) ++ [y]).length = 3 := by
      rw [List.length_append, show (num (4095 + 1)).length = 2 by decide +kernel]; rfl
    rw [this]
    decide
  · have n1 : (num 1).length = 1 := by decide +kernel
    have na := num_12 a (by omega)
    have nb := num_12 b (by omega)
    unfold RU.row
    by_cases ha : a = 0
    · subst ha
      by_cases hb : b = 0
      · omega
      · have hr := RU.runs_flat [(1, y), (b, x)] none ⟨by omega, by simp, by omega, by simp [e], trivial⟩
        rw [show RU.flat [(1, y), (b, x)] = List.replicate 0 x ++ y :: List.replicate b x by simp [RU.flat]] at hr
        rw [hr]
        simp only [RU.rBytes, List.flatMap_cons, List.flatMap_nil, List.length_append, List.length_cons, List.length_nil]
        omega
    · by_cases hb : b = 0
      · subst hb
        have hr := RU.runs_flat [(a, x), (1, y)] none ⟨by omega, by simp, by omega, by simp [Ne.symm e], trivial⟩
        rw [show RU.flat [(a, x), (1, y)] = List.replicate a x ++ y :: List.replicate 0 x by simp [RU.flat]] at hr
        rw [hr]
        simp only [RU.rBytes, List.flatMap_cons, List.flatMap_nil, List.length_append, List.length_cons, List.length_nil]
        omega
      · have hr := RU.runs_flat [(a, x), (1, y), (b, x)] none ⟨by omega, by simp, by omega, by simp [Ne.symm e], by omega, by simp [e], trivial⟩
        rw [show RU.flat [(a, x), (1, y), (b, x)] = List.replicate a x ++ y :: List.replicate b x by simp [RU.flat]] at hr
        rw [hr]
        simp only [RU.rBytes, List.flatMap_cons, List.flatMap_nil, List.length_append, List.length_cons, List.length_nil]
        omega
/-- A chunk of one cell and one light but for a place has ten bytes to twenty-two. -/
theorem pack_mid (c l q r : Pr) (a : Nat) (ha : a < 4096) : 10 ≤ (packB ((List.replicate 4096 c).set a q) ((List.replicate 4096 l).set a r) []).length ∧ (packB ((List.replicate 4096 c).set a q) ((List.replicate 4096 l).set a r) []).length ≤ 22 := by
  obtain ⟨b, hb⟩ : ∃ b, a + (b + 1) = 4096 := ⟨4095 - a, by omega⟩
  rw [← hb, rep_set c q a b, rep_set l r a b]
  obtain ⟨P, x, y, hc, h1, h2⟩ := codes_mid c q a b
  have e2 : num ([] : List Pr).length = [0] := by decide +kernel
  unfold packB
  rw [hc, e2, List.map_append, List.map_cons, List.map_replicate, List.map_replicate]
  have r1 := row_mid a b hb x y
  have r2 := row_mid a b hb (lcode l) (lcode r)
  have p := pBytes_len P
  simp only [List.length_append, List.length_cons, List.length_nil, tBytes]
  omega
theorem short_may (c l q r : Pr) (hc : mayK c = true) (hl : l.1 ≤ 15 ∧ l.2 ≤ 15) (hq : mayK q = true) (hr : r.1 ≤ 15 ∧ r.2 ≤ 15) (a : Nat) (ha : a < 4096) : mayB ((List.replicate 4096 c).set a q) ((List.replicate 4096 l).set a r) [] = true := by
  rw [may_set _ _ [] [] List.length_replicate List.length_replicate (may_rep c l hc hl) a ha, hq, decide_eq_true hr.1, decide_eq_true hr.2]
  rfl
end Go.Proofs.Ytkecppgodmbmlaa.PK

namespace Go.Proofs.Ytkecppgodmbmlaa.PK
open Go.ChangeShapes Go.WideShapes Go.Deep Go.RowKit Go.Proofs.YtkecppgodmbmlaaW.PrintWords Go.Proofs.YtkecppgodmbmlaaW.PrintLast Go.Proofs.YtkecppgodmbmlaaW.PrintMore
set_option linter.unusedVariables false
set_option linter.unusedSimpArgs false
section
variable {H : Type} {enc : TypeId × Value → H} {w : World} {base : Nat} {spare : Nat → Bool} {held : Bool}
theorem cellsPart : Try.prog.cellsOf 38 = 6 := by kernel_rfl
theorem bytesPart : Try.prog.bytesOf 38 = 24 := by kernel_rfl
theorem cells_int : Try.prog.cellsOf 3 = 1 := by kernel_rfl
theorem cells_u8 : Try.prog.cellsOf 5 = 1 := by kernel_rfl
theorem cells_cell : Try.prog.cellsOf 34 = 2 := by kernel_rfl
theorem cells_light : Try.prog.cellsOf 36 = 2 := by kernel_rfl
theorem u8_of {c : Value} {x : DataW H × List MemPlace} {n : Nat} (h : DataW.trod enc Try.prog w base spare held n 5 [c] = some x) : ∃ a : Int, c = .int .u8 a ∧ 0 ≤ a ∧ a < 256 := by
  obtain ⟨a, hx, _, hw⟩ := DataW.trod_int Try.underlying5 h
  obtain rfl : c = .int .u8 a := by simpa using hx
  refine ⟨a, rfl, ?_⟩
  simp [Lit.wf, IntKind.min, IntKind.max, IntKind.signed, IntKind.bits] at hw
  omega
theorem i64_of {c : Value} {x : DataW H × List MemPlace} {n : Nat} (h : DataW.trod enc Try.prog w base spare held n 3 [c] = some x) : ∃ a : Int, c = .int .i64 a ∧ -9223372036854775808 ≤ a ∧ a ≤ 9223372036854775807 := by
  obtain ⟨a, hx, _, hw⟩ := DataW.trod_int Try.underlying3 h
  obtain rfl : c = .int .i64 a := by simpa using hx
  refine ⟨a, rfl, ?_⟩
  simp [Lit.wf, IntKind.min, IntKind.max, IntKind.signed, IntKind.bits] at hw
  omega
theorem pair_of {t : TypeId} {f0 f1 : Field} {c0 c1 : Value} {x : DataW H × List MemPlace} {n : Nat} (ht : Try.prog.underlying t = some (.struct #[f0, f1])) (e0 : f0.type = 5 ∧ f0.offset = 0) (e1 : f1.type = 5 ∧ f1.offset = 1)
    (h : DataW.trod enc Try.prog w base spare held n t [c0, c1] = some x) : ∃ p : Pr, c0 = .int .u8 p.1 ∧ c1 = .int .u8 p.2 ∧ U8 [p] := by
  obtain ⟨y0, y1, m, _, _, h0, h1⟩ := Go.ChangeShapes.trod_struct2 ht h
  rw [e0.1, e0.2, cells_u8] at h0
  rw [e1.1, e1.2, cells_u8] at h1
  obtain ⟨a, rfl, ha⟩ := u8_of h0
  obtain ⟨b, rfl, hb⟩ := u8_of h1
  exact ⟨(a, b), rfl, rfl, fun q hq => by obtain rfl := List.mem_singleton.1 hq; exact ⟨ha, hb⟩⟩
set_option maxRecDepth 100000 in
theorem part_of {cs : List Value} {x : DataW H × List MemPlace} {n : Nat} (h : DataW.trod enc Try.prog w base spare held n 38 cs = some x) :
    ∃ p : Pt, cs = [.int .i64 p.1, .int .i64 p.2.1, .int .u8 p.2.2.1.1, .int .u8 p.2.2.1.2, .int .u8 p.2.2.2.1, .int .u8 p.2.2.2.2] ∧ (-9223372036854775808 ≤ p.1 ∧ p.1 ≤ 9223372036854775807) ∧ (-9223372036854775808 ≤ p.2.1 ∧ p.2.1 ≤ 9223372036854775807) ∧ U8 [p.2.2.1] ∧ U8 [p.2.2.2] := by
  obtain ⟨xs, m, _, _, hl, hlen, hf⟩ := DataW.trod_struct Try.underlying38 h
  rw [cellsPart] at hl
  match cs, hl with
  | [c0, c1, c2, c3, c4, c5], _ =>
  match xs, hlen with
  | [y0, y1, y2, y3], _ =>
    have h0 := hf 0 _ rfl
    have h1 := hf 1 _ rfl
    have h2 := hf 2 _ rfl
    have h3 := hf 3 _ rfl
    simp only [cells_int, cells_cell, cells_light, List.drop_zero, List.drop_succ_cons, List.take_succ_cons, List.take_zero, List.getElem?_cons_zero, List.getElem?_cons_succ] at h0 h1 h2 h3
    obtain ⟨a, rfl, ha⟩ := i64_of h0
    obtain ⟨b, rfl, hb⟩ := i64_of h1
    obtain ⟨c, rfl, rfl, hc⟩ := pair_of Try.underlying34 ⟨rfl, rfl⟩ ⟨rfl, rfl⟩ h2
    obtain ⟨d, rfl, rfl, hd⟩ := pair_of Try.underlying36 ⟨rfl, rfl⟩ ⟨rfl, rfl⟩ h3
    exact ⟨(a, b, c, d), rfl, ha, hb, hc, hd⟩
end
section
variable {H : Type} {enc : TypeId × Value → H} {w : World} {base : Nat} {held : Bool}
set_option maxRecDepth 100000 in
/-- A slice of parts that is read. -/
theorem open_parts {v : Value} {d : DataW H} {p : List MemPlace} {r : Reach} {b0 : Nat} (hv : Value.okWide Try.prog w r b0 41 v) (h : DataW.Trod enc Try.prog w base (fun _ => true) held 41 v d p) :
    ∃ A c ps, v = .slice A ps.length c ∧ ps.length ≤ c ∧ c ≤ maxLen ∧ Pts w A ps ∧ PU8 ps ∧ (c = 0 ∨ ∃ E S, d = .slice E S ∧ E.length + S.length = c) := by
  obtain ⟨A, len, cap, rfl⟩ := okWide_slice Try.underlying41 hv
  obtain ⟨fuel, hf⟩ := h
  rcases open_slice Try.underlying41 hf with ⟨hcs, _⟩ | ⟨a, l, c, m, n, D, Pl, hcs, _, hl, hm, hmm, hx, hi⟩
  · have hcs : Value.slice A len cap = .slice none 0 0 := by simpa [Value.cells] using hcs
    injection hcs with h1 h2 h3
    subst h1 h2 h3
    exact ⟨none, 0, [], rfl, Nat.le_refl _, by decide, fun j hj => absurd hj (by simp), (fun q hq => by cases hq), .inl rfl⟩
  · simp [Value.cells] at hcs
    obtain ⟨rfl, rfl, rfl⟩ := hcs
    have hel : ∀ i, i < len → ∃ q : Pt, (∀ j u, [Value.int .i64 q.1, .int .i64 q.2.1, .int .u8 q.2.2.1.1, .int .u8 q.2.2.1.2, .int .u8 q.2.2.2.1, .int .u8 q.2.2.2.2][j]? = some u → w.cell? (a.add (i * 6 + j)) = some u) ∧ U8 [q.2.2.1] ∧ U8 [q.2.2.2] := by
      intro i hil
      obtain ⟨cs, hc, ht'⟩ := hi i (by rw [hmm]; simp; omega)
      obtain ⟨q, rfl, _, _, hu⟩ := part_of ht'
      obtain ⟨_, hl6, hat⟩ := World.cells?_some hc
      refine ⟨q, fun j u hj => ?_, hu⟩
      have hj6 : j < 6 := by have := (List.getElem?_eq_some_iff.1 hj).1; simpa using this
      have := hat j (by rw [cellsPart]; exact hj6)
      rw [hj, Go.Deep.add_add, cellsPart] at this
      exact this
    let f : Nat → Pt := fun i => if h : i < len then Classical.choose (hel i h) else Q0
    have hf : ∀ i (h : i < len), f i = Classical.choose (hel i h) := fun i h => dif_pos h
    have hlen : ((List.range len).map f).length = len := by rw [List.length_map, List.length_range]
    have hget : ∀ i, i < len → ((List.range len).map f).getD i Q0 = f i := fun i h => by
      rw [List.getD_eq_getElem?_getD, List.getElem?_map, List.getElem?_range h]; rfl
    refine ⟨some a, cap, (List.range len).map f, by rw [hlen], by rw [hlen]; exact hl, hm, fun i hi' => ?_, fun q hq => ?_, .inr ?_⟩
    · rw [hlen] at hi'
      have hs := (Classical.choose_spec (hel i hi')).1
      rw [← hf i hi'] at hs
      rw [hget i hi']
      have h0 := hs 0 _ rfl
      have h1 := hs 1 _ rfl
      have h2 := hs 2 _ rfl
      have h3 := hs 3 _ rfl
      have h4 := hs 4 _ rfl
      have h5 := hs 5 _ rfl
      rw [at_field _ _ _ (by decide)] at h1 h2 h3 h4 h5
      exact ⟨a, rfl, h0, h1, h2, h3, h4, h5⟩
    · obtain ⟨i, hi', rfl⟩ := List.mem_map.1 hq
      have hi' := List.mem_range.1 hi'
      have hs := (Classical.choose_spec (hel i hi')).2
      rw [← hf i hi'] at hs
      exact hs
    · simp only [Prod.mk.injEq] at hx
      obtain ⟨rfl, _⟩ := hx
      refine ⟨_, _, rfl, ?_⟩
      rw [List.length_map, List.length_map, List.length_range, List.length_range, hmm]
      simp only [if_true]
      omega
set_option maxRecDepth 100000 in
theorem parts_small {ts : List TypeId} {ds : List (DataW H)} {d : DataW H} {c j : Nat} (hsz : (DataW.weightsEach Try.prog ts ds).all (· ≤ reachBytes) = true) (ht : ts[j]? = some 41) (hd : ds[j]? = some d) (h : c = 0 ∨ ∃ E S, d = .slice E S ∧ E.length + S.length = c) : c ≤ 140737488355328 := by
  rcases h with rfl | ⟨E, S, rfl, rfl⟩
  · omega
  · have := sized_slice hsz ht hd Try.underlying41
    rw [bytesPart, show reachBytes = 140737488351232 from rfl] at this
    omega
set_option maxRecDepth 100000 in
/-- A part by value. -/
theorem open_part {v : Value} {d : DataW H} {p : List MemPlace} {r : Reach} {b0 : Nat} (hv : Value.okWide Try.prog w r b0 38 v) (h : DataW.Trod enc Try.prog w base (fun _ => true) held 38 v d p) :
    ∃ q : Pt, v = .agg #[.int .i64 q.1, .int .i64 q.2.1, .int .u8 q.2.2.1.1, .int .u8 q.2.2.1.2, .int .u8 q.2.2.2.1, .int .u8 q.2.2.2.2] ∧ U8 [q.2.2.1] ∧ U8 [q.2.2.2] := by
  obtain ⟨cs, rfl, _⟩ := okWide_struct Try.underlying38 hv
  obtain ⟨fuel, hf⟩ := h
  obtain ⟨q, hq, _, _, h1, h2⟩ := part_of hf
  refine ⟨q, ?_, h1, h2⟩
  simp only [Value.cells] at hq
  congr 1
  exact Array.ext' (by simpa using hq)
end
end Go.Proofs.Ytkecppgodmbmlaa.PK

namespace Go.Proofs.Ytkecppgodmbmlaa.PK
open Go.RowKit Go.Proofs.YtkecppgodmbmlaaW.PrintWords Go.Proofs.YtkecppgodmbmlaaW.PrintLast Go.Proofs.YtkecppgodmbmlaaW.PrintMore Go.Proofs.Ytkecppgodmbmlaa.CD Go.Proofs.Ytkecppgodmbmlaa.BR
set_option linter.unusedVariables false
set_option linter.unusedSimpArgs false
theorem nil_ticks' (w : World) : Kd.C kT w none ([] : List Pr).length [] := ⟨rfl, by decide, fun h => absurd h (by decide)⟩
def flatQ (l : List Pt) : List Value := l.flatMap fun p => [.int .i64 p.1, .int .i64 p.2.1, .int .u8 p.2.2.1.1, .int .u8 p.2.2.1.2, .int .u8 p.2.2.2.1, .int .u8 p.2.2.2.2]
theorem flatQ_at : ∀ (l : List Pt) (i : Nat), i < l.length → (flatQ l)[i * 6]? = some (.int .i64 (l.getD i Q0).1) ∧ (flatQ l)[i * 6 + 1]? = some (.int .i64 (l.getD i Q0).2.1) ∧ (flatQ l)[i * 6 + 2]? = some (.int .u8 (l.getD i Q0).2.2.1.1) ∧ (flatQ l)[i * 6 + 2 + 1]? = some (.int .u8 (l.getD i Q0).2.2.1.2) ∧ (flatQ l)[i * 6 + 4]? = some (.int .u8 (l.getD i Q0).2.2.2.1) ∧ (flatQ l)[i * 6 + 4 + 1]? = some (.int .u8 (l.getD i Q0).2.2.2.2)
  | q :: l, 0, h => ⟨rfl, rfl, rfl, rfl, rfl, rfl⟩
  | q :: l, i + 1, h => by
    have ih := flatQ_at l i (by simpa using h)
    have e : ∀ k, (flatQ (q :: l))[k + 6]? = (flatQ l)[k]? := fun k => by unfold flatQ; rw [List.flatMap_cons]; rfl
    rw [show (i + 1) * 6 = i * 6 + 6 by omega, show i * 6 + 6 + 1 = (i * 6 + 1) + 6 by omega, show i * 6 + 6 + 2 = (i * 6 + 2) + 6 by omega, show i * 6 + 2 + 6 + 1 = (i * 6 + 2 + 1) + 6 by omega, show i * 6 + 6 + 4 = (i * 6 + 4) + 6 by omega, show i * 6 + 4 + 6 + 1 = (i * 6 + 4 + 1) + 6 by omega]
    rw [e, e, e, e, e, e]
    exact ih
theorem pts_blk (W : World) (b : Nat) (ps : List Pt) (cs : Array Value) (hcs : cs = (flatQ ps).toArray) (t : TypeId) (h : W.heap[b]? = some (.cells cs t (0, 0))) : Pts W (some ⟨b, 0, none⟩) ps := fun j hj => by
  subst hcs
  have hf := flatQ_at ps j hj
  have hc : ∀ k, W.cell? ⟨b, k, none⟩ = (flatQ ps)[k]? := fun k => by rw [blk_cell h, List.getElem?_toArray]
  refine ⟨_, rfl, ?_⟩
  rw [add_at, Nat.zero_add]
  exact ⟨(hc _).trans hf.1, (hc _).trans hf.2.1, (hc _).trans hf.2.2.1, (hc _).trans hf.2.2.2.1, (hc _).trans hf.2.2.2.2.1, (hc _).trans hf.2.2.2.2.2⟩
theorem made_at (W : World) (b : Nat) (ps : List Pt) (n : Nat) (hn : n = ps.length) (h3 : n ≤ 300) (cs : Array Value) (hcs : cs = (flatQ ps).toArray) (t : TypeId) (h : W.heap[b]? = some (.cells cs t (0, 0))) :
    Calls Try.prog 17 #[.slice (some ⟨b, 0, none⟩) n n, .slice none 0 0] W fun e w' => ∃ v, e = .returned (.pointer (some ⟨W.heap.size, 0, none⟩)) ∧ Chunk w' W.heap.size (madeP ps).1 (madeP ps).2 v ∧ TK w' v [] ∧ Below W.heap.size W w' := by
  subst hn
  refine (made_calls (some ⟨b, 0, none⟩) none ps.length 0 ps [] W (by omega) (pts_blk W b ps cs hcs t h) (nil_ticks' W) (Nat.le_refl _) (by decide)).mono ?_
  rintro e w' ⟨v, rfl, hc, ht, hb⟩
  rw [List.take_of_length_le h3] at hc
  exact ⟨v, rfl, hc, ht, hb⟩
theorem put_len (g : Nat) (C L : List Pr) (v : Value) (w : World) (h : Chunk w g C L v) (hT : TK w v []) (hC : U8 C) (hL : U8 L) (hm : mayB C L [] = true) (n : Nat) (hn : (packB C L []).length = n) :
    Calls Try.prog 12 #[.pointer (some ⟨g, 0, none⟩)] w fun e w' => ∃ A c, e = .returned (.tuple #[.slice A n c, .int .i64 0]) ∧ Below w.heap.size w w' := by
  obtain ⟨A, c, rfl, hc, hk⟩ := hT
  refine (pput_calls g C L [] A c w h hk hC hL (by decide) hm).mono ?_
  rintro e w' ⟨v, rfl, ho, hb⟩
  obtain ⟨A', c', rfl, _⟩ := OB.slice ho
  rw [hn]
  exact ⟨A', c', rfl, hb⟩
theorem rep_u8 {p : Pr} (h : U8 [p]) (n : Nat) : U8 (List.replicate n p) := fun q hq => by
  obtain ⟨_, rfl⟩ := List.mem_replicate.1 hq
  exact h _ (List.mem_singleton.2 rfl)
set_option maxHeartbeats 2000000 in
set_option maxRecDepth 100000 in
theorem shortLaw (xa xm xk xl xq xr ya ym yk yl yq yr : Int) (w : World) (hx : U8 [(xk, xl)]) (hx2 : U8 [(xq, xr)]) (hy : U8 [(yk, yl)]) (hy2 : U8 [(yq, yr)]) :
    Calls Try.prog 4 #[.agg #[.int .i64 xa, .int .i64 xm, .int .u8 xk, .int .u8 xl, .int .u8 xq, .int .u8 xr], .agg #[.int .i64 ya, .int .i64 ym, .int .u8 yk, .int .u8 yl, .int .u8 yq, .int .u8 yr]] w fun e w' => e = .returned (.bool true) ∧ Below w.heap.size w w' := by
  have HM1 := Lib.hid (fun W => may_calls (xk, xl) (hx _ (List.mem_singleton.2 rfl)).1.1 (hx _ (List.mem_singleton.2 rfl)).1.2 W)
  have HM2 := Lib.hid (fun W => may_calls (yk, yl) (hy _ (List.mem_singleton.2 rfl)).1.1 (hy _ (List.mem_singleton.2 rfl)).1.2 W)
  go_enter Try.func4, Try.ntmps4
  go_wp2_with fail
  refine (HM1.out _).mono ?_; rintro e w1 ⟨rfl, hb1⟩
  have HB1 := Lib.hid (below_step (below_alloc (below_alloc (Below.refl _ w) _) _) hb1)
  have HX1 := blk_below (blk_below (blk_new w (.cells #[.int .i64 0, .int .i64 4096, .int .u8 xk, .int .u8 xl, .int .u8 xq, .int .u8 xr] 38)) (below_alloc (Below.refl _ _) _)) hb1
  have HY1 := blk_below (blk_new _ _) hb1
  rw [World.size_alloc] at HY1
  clear hb1
  have y2 := blk_cell HY1 2
  have y3 := blk_cell HY1 3
  simp only [List.getElem?_toArray, List.getElem?_cons_succ, List.getElem?_cons_zero] at y2 y3
  have HX1h := Lib.hid HX1
  have HY1h := Lib.hid HY1
  clear HX1 HY1
  cases hm1 : mayK (xk, xl)
  · clear HM1
    go_wp2_with fail
    refine (works_calls _).mono ?_; rintro e w9 ⟨rfl, hb9⟩
    have HB9 := Lib.hid (below_step HB1.out hb9)
    clear hb9
    go_wp2
    go_ret
    exact ⟨rfl, HB9.out⟩
  · have Hm1 := Lib.hid hm1
    clear hm1 HM1
    go_wp2_with fail
    refine (HM2.out _).mono ?_; rintro e w2 ⟨rfl, hb2⟩
    have HB2 := Lib.hid (below_step HB1.out hb2)
    have HX2 := blk_below HX1h.out hb2
    have HY2 := blk_below HY1h.out hb2
    clear hb2 y2 y3 HX1h HY1h HM2
    have x4 := blk_cell HX2 4
    have x5 := blk_cell HX2 5
    have y4 := blk_cell HY2 4
    have y5 := blk_cell HY2 5
    simp only [List.getElem?_toArray, List.getElem?_cons_succ, List.getElem?_cons_zero] at x4 x5 y4 y5
    have HX2h := Lib.hid HX2
    have HY2h := Lib.hid HY2
    clear HX2 HY2
    cases hm2 : mayK (yk, yl)
    · skip
      go_wp2_with fail
      refine (works_calls _).mono ?_; rintro e w9 ⟨rfl, hb9⟩
      have HB9 := Lib.hid (below_step HB2.out hb9)
      clear hb9
      go_wp2
      go_ret
      exact ⟨rfl, HB9.out⟩
    · have Hm2 := Lib.hid hm2
      clear hm2
      by_cases qxq : xq ≤ 15
      · have dxq := decide_eq_false (show ¬ (15 : Int) < xq by omega)
        by_cases qxr : xr ≤ 15
        · have dxr := decide_eq_false (show ¬ (15 : Int) < xr by omega)
          by_cases qyq : yq ≤ 15
          · have dyq := decide_eq_false (show ¬ (15 : Int) < yq by omega)
            by_cases qyr : yr ≤ 15
            · have dyr := decide_eq_false (show ¬ (15 : Int) < yr by omega)
              have HS := Lib.hid (show ((xq ≤ 15 ∧ xr ≤ 15) ∧ yq ≤ 15 ∧ yr ≤ 15) from ⟨⟨qxq, qxr⟩, qyq, qyr⟩)
              clear qxq qxr qyq qyr
              have z0 := blk_cell HX2h.out 0
              have z1 := blk_cell HX2h.out 1
              have z2 := blk_cell HX2h.out 2
              have z3 := blk_cell HX2h.out 3
              simp only [List.getElem?_toArray, List.getElem?_cons_succ, List.getElem?_cons_zero] at z0 z1 z2 z3
              go_wp2_with fail
              refine (made_at _ _ [((0 : Int), (4096 : Int), (xk, xl), (xq, xr))] 1 rfl (by decide) _ rfl _ (blk_new w2 _)).mono ?_; rintro e w3 ⟨v3, rfl, hc3, ht3, hb3⟩
              have HB3 := Lib.hid (below_step (below_alloc HB2.out _) hb3)
              have HX3 := Lib.hid (blk_below (blk_below HX2h.out (below_alloc (Below.refl _ _) _)) hb3)
              have HY3 := Lib.hid (blk_below (blk_below HY2h.out (below_alloc (Below.refl _ _) _)) hb3)
              rw [made_one, World.size_alloc] at hc3
              have HC3 := Lib.hid hc3
              have HT3 := Lib.hid ht3
              clear hb3 hc3 ht3 z0 z1 z2 z3 HX2h HY2h x4 x5 y4 y5
              have z0 := blk_cell HX3.out 0
              have z1 := blk_cell HX3.out 1
              have z2 := blk_cell HX3.out 2
              have z3 := blk_cell HX3.out 3
              have z4 := blk_cell HX3.out 4
              have z5 := blk_cell HX3.out 5
              have y0 := blk_cell HY3.out 0
              have y1 := blk_cell HY3.out 1
              have y2 := blk_cell HY3.out 2
              have y3 := blk_cell HY3.out 3
              have y4 := blk_cell HY3.out 4
              have y5 := blk_cell HY3.out 5
              simp only [List.getElem?_toArray, List.getElem?_cons_succ, List.getElem?_cons_zero] at z0 z1 z2 z3 z4 z5 y0 y1 y2 y3 y4 y5
              go_wp2_with fail
              refine (made_at _ _ [((0 : Int), (4096 : Int), (xk, xl), (xq, xr)), (ya, (1 : Int), (yk, yl), (yq, yr))] 2 rfl (by decide) _ rfl _ (blk_new w3 _)).mono ?_; rintro e w4 ⟨v4, rfl, hc4, ht4, hb4⟩
              have HB4 := Lib.hid (below_step (below_alloc HB3.out _) hb4)
              obtain ⟨at_, hat⟩ : ∃ n : Nat, (n : Int) = ya % 4096 := ⟨(ya % 4096).toNat, by omega⟩
              have hat4 : at_ < 4096 := by omega
              rw [made_two (xk, xl) (xq, xr) (yk, yl) (yq, yr) at_ hat4 ya hat, World.size_alloc] at hc4
              have HC4 := Lib.hid hc4
              have HT4 := Lib.hid ht4
              have HC3b := Lib.hid ((HC3.out.below (below_alloc (Below.refl _ _) _) HC3.out.lt).below hb4 (HC3.out.below (below_alloc (Below.refl _ _) _) HC3.out.lt).lt)
              have HT3b := Lib.hid (show TK w4 v3 [] from by
                obtain ⟨A, c, e1, e2, e3⟩ := HT3.out
                exact ⟨A, c, e1, e2, Kd.C_below (Kd.C_below e3 (below_alloc (Below.refl _ _) _)) hb4⟩)
              have hp1 := Lib.hid (put_len _ _ _ _ _ HC3b.out HT3b.out (rep_u8 hx _) (rep_u8 hx2 _) (may_rep (xk, xl) (xq, xr) Hm1.out HS.out.1) 10 (by rw [pack_rep]; rfl))
              have hpm := pack_mid (xk, xl) (xq, xr) (yk, yl) (yq, yr) at_ hat4
              obtain ⟨m, hm⟩ : ∃ m, (packB ((List.replicate 4096 (xk, xl)).set at_ (yk, yl)) ((List.replicate 4096 (xq, xr)).set at_ (yq, yr)) []).length = m := ⟨_, rfl⟩
              rw [hm] at hpm
              have hp2 := Lib.hid (fun W (hb : Below w4.heap.size w4 W) => put_len _ _ _ _ W (HC4.out.below hb HC4.out.lt) (show TK W v4 [] from by
                obtain ⟨A, c, e1, e2, e3⟩ := HT4.out
                exact ⟨A, c, e1, e2, Kd.C_below e3 hb⟩) (u8_set (rep_u8 hx _) _ _ (hy _ (List.mem_singleton.2 rfl))) (u8_set (rep_u8 hx2 _) _ _ (hy2 _ (List.mem_singleton.2 rfl))) (short_may (xk, xl) (xq, xr) (yk, yl) (yq, yr) Hm1.out HS.out.1 Hm2.out HS.out.2 at_ hat4) m hm)
              clear hb4 hc4 ht4 hat hm HC3 HT3 HC3b HT3b HX3 HY3 z0 z1 z2 z3 z4 z5 y0 y1 y2 y3 y4 y5
              have g1 : (10 : Int) ≤ (m : Int) := by omega
              have g2 : (m : Int) ≤ 22 := by omega
              clear hpm
              go_wp2_with fail
              refine hp1.out.mono ?_; rintro e w5 ⟨A5, c5, rfl, hb5⟩
              have HB5 := Lib.hid (below_step HB4.out hb5)
              have hb5h := Lib.hid hb5
              clear hb5
              go_wp2_with fail
              refine (hp2.out _ hb5h.out).mono ?_; rintro e w6 ⟨A6, c6, rfl, hb6⟩
              have HB6 := Lib.hid (below_step HB5.out hb6)
              clear hb6
              go_wp2_with fail
              refine (works_calls _).mono ?_; rintro e w9 ⟨rfl, hb9⟩
              have HB9 := Lib.hid (below_step HB6.out hb9)
              clear hb9
              go_wp2
              go_ret
              exact ⟨rfl, HB9.out⟩
            · have dyr := decide_eq_true (show (15 : Int) < yr by omega)
              clear qyr
              go_wp2_with fail
              refine (works_calls _).mono ?_; rintro e w9 ⟨rfl, hb9⟩
              have HB9 := Lib.hid (below_step HB2.out hb9)
              clear hb9
              go_wp2
              go_ret
              exact ⟨rfl, HB9.out⟩
          · have dyq := decide_eq_true (show (15 : Int) < yq by omega)
            clear qyq
            go_wp2_with fail
            refine (works_calls _).mono ?_; rintro e w9 ⟨rfl, hb9⟩
            have HB9 := Lib.hid (below_step HB2.out hb9)
            clear hb9
            go_wp2
            go_ret
            exact ⟨rfl, HB9.out⟩
        · have dxr := decide_eq_true (show (15 : Int) < xr by omega)
          clear qxr
          go_wp2_with fail
          refine (works_calls _).mono ?_; rintro e w9 ⟨rfl, hb9⟩
          have HB9 := Lib.hid (below_step HB2.out hb9)
          clear hb9
          go_wp2
          go_ret
          exact ⟨rfl, HB9.out⟩
      · have dxq := decide_eq_true (show (15 : Int) < xq by omega)
        clear qxq
        go_wp2_with fail
        refine (works_calls _).mono ?_; rintro e w9 ⟨rfl, hb9⟩
        have HB9 := Lib.hid (below_step HB2.out hb9)
        clear hb9
        go_wp2
        go_ret
        exact ⟨rfl, HB9.out⟩
set_option maxRecDepth 100000 in
theorem shortWalk {H : Type} {enc : TypeId × Value → H} {Q : Prop} (v : Value) (d : DataW H) (p : List MemPlace) (v2 : Value) (d2 : DataW H) (p2 : List MemPlace) (w : World) {base : Nat} {held : Bool} {r : Reach} {b0 : Nat}
    (hv : Value.okWide Try.prog w r b0 38 v) (h : DataW.Trod enc Try.prog w base (fun _ => true) held 38 v d p)
    {r2 : Reach} {b2 : Nat} (hv2 : Value.okWide Try.prog w r2 b2 38 v2) (h2 : DataW.Trod enc Try.prog w base (fun _ => true) held 38 v2 d2 p2) (hq : Q) :
    Calls Try.prog 4 #[v, v2] w fun e w' => e = .returned (.bool true) ∧ Below w.heap.size w w' := by
  obtain ⟨⟨xa, xm, ⟨xk, xl⟩, ⟨xq, xr⟩⟩, rfl, h3, h4⟩ := open_part hv h
  obtain ⟨⟨ya, ym, ⟨yk, yl⟩, ⟨yq, yr⟩⟩, rfl, h5, h6⟩ := open_part hv2 h2
  exact shortLaw xa xm xk xl xq xr ya ym yk yl yq yr w h3 h4 h5 h6
end Go.Proofs.Ytkecppgodmbmlaa.PK
