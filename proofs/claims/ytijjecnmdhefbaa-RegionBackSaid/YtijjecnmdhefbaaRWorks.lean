/- The short helper of chapter 24's laws: two entries as bytes. -/
import Derived.Test.YtijjecnmdhefbaaDir
import Derived.Lib.ConvBytes
namespace Go.Proofs.Ytijjecnmdhefbaa.RG
open Go.RowKit Go.Proofs.YtijjecnmdhefbaaW.PrintWords Go.Proofs.YtijjecnmdhefbaaW.PrintLast Go.Proofs.YtijjecnmdhefbaaW.PrintMore Go.Proofs.Ytijjecnmdhefbaa.CD Go.Proofs.Ytijjecnmdhefbaa.BR Go.Proofs.Ytijjecnmdhefbaa.BP
set_option linter.unusedVariables false
set_option linter.unusedSimpArgs false
def two : List Ent := [(3, 9, 100, 0), (5, 10, 7, 300)]
def twoB : List Int := [2, 3, 9, 100, 0, 1, 10, 7, 172, 2]
theorem two_dir : dir two = .ok twoB := by kernel_rfl
theorem two_ents (w : World) : Ents (w.alloc (.cells #[.int .i64 3, .int .i64 9, .int .i64 100, .int .i64 0, .int .i64 5, .int .i64 10, .int .i64 7, .int .i64 300] 49)) (some ⟨w.heap.size, 0, none⟩) 2 two := by
  refine ⟨rfl, fun j hj => ⟨_, rfl, ?_⟩⟩
  have Hb := blk_new w (.cells #[.int .i64 3, .int .i64 9, .int .i64 100, .int .i64 0, .int .i64 5, .int .i64 10, .int .i64 7, .int .i64 300] 49)
  rcases (by omega : j = 0 ∨ j = 1) with rfl | rfl
  · exact ⟨blk_cell Hb 0, blk_cell Hb 1, blk_cell Hb 2, blk_cell Hb 3⟩
  · exact ⟨blk_cell Hb 4, blk_cell Hb 5, blk_cell Hb 6, blk_cell Hb 7⟩
theorem hcv24 {A : Option Addr} {c : Nat} {l : List Int} {W : World} (hr : ReadsInt W .u8 A l.length l) : (convert 34 9 (.slice A l.length c)).run Try.prog W = .ok (.string (strOfNums l)) W :=
  string_of_reads (c := c) (src := 34) Try.underlying34 Try.underlying5 Try.underlying9 hr
set_option maxHeartbeats 1000000 in
set_option maxRecDepth 100000 in
theorem works24 (w : World) : Calls Try.prog 13 #[] w fun e w' => e = .returned (.bool true) ∧ Below w.heap.size w w' := by
  have HE := Lib.hid two_ents
  have hdir := Lib.hid two_dir
  obtain ⟨L, hL⟩ : ∃ L, L = twoB := ⟨_, rfl⟩
  have ET : Hid (((strOfNums L).toList == ([2, 3, 9, 100, 0, 1, 10, 7, 172, 2] : List UInt8)) = true) := Lib.hid (by rw [hL]; decide +kernel)
  rw [← hL] at hdir
  clear hL
  go_enter Try.func13, Try.ntmps13
  go_wp2_with fail
  refine (put_region _ 2 _ two _ (Nat.le_refl _) (by omega) (HE.out _)).mono ?_
  rintro e w1 ⟨hd, hb⟩
  rw [hdir.out] at hd
  obtain ⟨v, rfl, ho⟩ := hd
  obtain ⟨A1, c1, rfl, hc1, hr1⟩ := ho.slice
  have HB1 := Lib.hid (below_step (below_alloc (Below.refl _ _) _) hb)
  have kz := hcv24 (c := c1) hr1
  have eT := ET.out
  clear hb ho hc1 hr1
  go_wp2
  go_ret
  exact ⟨rfl, HB1.out⟩
end Go.Proofs.Ytijjecnmdhefbaa.RG
