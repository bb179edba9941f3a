/- Bytes of strings as slices; readers and rows made of them; PutInt, PutText, PutFixed; the law's cut of a string. -/
import Derived.Test.YthgahepldlicbaaBPut
import Derived.Test.YthgahepldlicbaaPBytesBackx1
namespace Go.Proofs.Ythgahepldlicbaa.BP
open Go.RowKit Go.Proofs.YthgahepldlicbaaW.PrintWords Go.Proofs.YthgahepldlicbaaW.PrintLast Go.Proofs.YthgahepldlicbaaW.PrintMore Go.Proofs.Ythgahepldlicbaa.CD Go.Proofs.Ythgahepldlicbaa.BR
set_option linter.unusedVariables false
set_option linter.unusedSimpArgs false
/-- The world behind []byte(t). -/
abbrev bw (W : World) (t : ByteArray) : World := Lib.bytesWorld W 5 t
theorem bytes_run (t : ByteArray) (W : World) : (convert 9 26 (.string t)).run Try.prog W = .ok (.slice (some ⟨W.heap.size, 0, none⟩) t.size (grownCap W t.size 0 5)) (bw W t) := print_bytes (P := Try.prog) 9 26 5 Try.underlying9 Try.underlying26 Try.underlying5 t W
theorem bw_below (W : World) (t : ByteArray) : Below W.heap.size W (bw W t) := bytes_below (Below.refl _ _) (Nat.le_refl _) 5 t
theorem bw_reads (W : World) (t : ByteArray) (ht : t.size ≤ 9223372036854775807) : ReadsInt (bw W t) .u8 (some ⟨W.heap.size, 0, none⟩) (bytesOf t).length (bytesOf t) := by
  rw [bytesOf_length]; exact bytes_reads W 5 t ht
/-- A reader of a string's bytes. -/
theorem newstr_calls (t : ByteArray) (W : World) (ht : t.size ≤ 140737488355328) :
    Calls Try.prog 20 #[.slice (some ⟨W.heap.size, 0, none⟩) t.size (grownCap W t.size 0 5)] (bw W t) fun e w' => ∃ g, e = .returned (.pointer (some ⟨g, 0, none⟩)) ∧ W.heap.size ≤ g ∧ Rdr w' g (bytesOf t) false ∧ Below W.heap.size W w' := by
  have h := new_calls (some ⟨W.heap.size, 0, none⟩) (grownCap W t.size 0 5) (bytesOf t) (bw W t) (bw_reads W t (by omega)) (by rw [bytesOf_length]; exact grownCap_ge _ _ _ _) (BS.bytes_bytesOf t) (by rw [bytesOf_length]; exact ht)
  rw [bytesOf_length] at h
  refine h.mono ?_
  rintro e w' ⟨g, rfl, hg, hr, hb⟩
  exact ⟨g, rfl, Nat.le_trans (bw_below W t).size hg, hr, below_step (bw_below W t) hb⟩
theorem xorA (a : Nat) (ha : a < 18446744073709551616) : bits .xor .u64 (a : Int) 0 = (a : Int) := by
  have ha' : a % 2 ^ IntKind.u64.bits = a := Nat.mod_eq_of_lt (by simp only [IntKind.bits]; omega)
  simp only [bits, BitVec.ofInt_natCast, show BitVec.ofInt IntKind.u64.bits 0 = 0#_ from rfl, BitVec.xor_zero, BitVec.toNat_ofNat, ha']
  exact CF.wu64_id _ (by omega) (by omega)
theorem xorB (a : Nat) (ha : a < 18446744073709551616) : bits .xor .u64 (a : Int) 18446744073709551615 = 18446744073709551615 - (a : Int) := by
  have ha' : a % 2 ^ 64 = a := Nat.mod_eq_of_lt (by omega)
  have h1 : BitVec.ofInt 64 18446744073709551615 = BitVec.allOnes 64 := by decide
  show IntKind.u64.wrap ((BitVec.ofInt 64 (a : Int) ^^^ BitVec.ofInt 64 18446744073709551615).toNat : Int) = _
  rw [h1, BitVec.ofInt_natCast, BitVec.xor_allOnes, BitVec.toNat_not, BitVec.toNat_ofNat, ha']
  have : IntKind.u64.wrap ((2 ^ 64 - 1 - a : Nat) : Int) = ((2 ^ 64 - 1 - a : Nat) : Int) := CF.wu64_id _ (by omega) (by omega)
  rw [this]
  omega
theorem zig_eq (i : Int) (h : -9223372036854775808 ≤ i ∧ i < 9223372036854775808) : Go.bits .xor .u64 (IntKind.u64.wrap ((IntKind.u64.wrap i) * 2)) (IntKind.u64.wrap (i / 9223372036854775808)) = (zig i : Int) := by
  unfold zig
  by_cases h0 : 0 ≤ i
  · rw [if_pos h0]
    have e1 : IntKind.u64.wrap ((IntKind.u64.wrap i) * 2) = (((2 * i).toNat : Nat) : Int) := by rw [CF.wu64, CF.wu64]; omega
    have e2 : IntKind.u64.wrap (i / 9223372036854775808) = 0 := by rw [CF.wu64]; omega
    rw [e1, e2, xorA _ (by omega)]
  · rw [if_neg h0]
    have e1 : IntKind.u64.wrap ((IntKind.u64.wrap i) * 2) = (((18446744073709551616 + 2 * i).toNat : Nat) : Int) := by rw [CF.wu64, CF.wu64]; omega
    have e2 : IntKind.u64.wrap (i / 9223372036854775808) = 18446744073709551615 := by rw [CF.wu64]; omega
    rw [e1, e2, xorB _ (by omega)]
    omega
theorem putInt_calls (A : Option Addr) (c : Nat) (l : List Int) (i : Int) (w : World) (hr : ReadsInt w .u8 A l.length l) (hc : l.length ≤ c) (hi : -9223372036854775808 ≤ i ∧ i < 9223372036854775808) (hl : l.length < 140737488355000) :
    Calls Try.prog 12 #[.slice A l.length c, .int .i64 i] w fun e w' => ∃ v, e = .returned v ∧ OB w' w.heap.size v (l ++ num (zig i)) ∧ Below w.heap.size w w' := by
  have hf : PBytesBack.bytes_PutInt.f 12 l i = some (l ++ num (zig i)) := by
    unfold PBytesBack.bytes_PutInt.f
    rw [zig_eq i hi]
    have h2 : PBytesBack.bytes_Put.f 12 l (zig i : Int) = some (l ++ num (zig i)) := CF.put_f (zig i) l (zig_lt i hi) hl
    rw [h2]
    rfl
  exact (PBytesBack.bytes_PutInt.calls 12 A c l i _ w (Kd.C_of_reads (d := (0 : Int)) (h1 := fun _ => rfl) hr) hc hf).mono fun e w' ⟨v, he, hR, hb⟩ => ⟨v, he, OB.of_R hR, hb⟩
theorem putInt_nil (i : Int) (w : World) (hi : -9223372036854775808 ≤ i ∧ i < 9223372036854775808) :
    Calls Try.prog 12 #[.slice none 0 0, .int .i64 i] w fun e w' => ∃ v, e = .returned v ∧ OB w' w.heap.size v (num (zig i)) ∧ Below w.heap.size w w' :=
  putInt_calls none 0 [] i w ⟨rfl, by decide, fun h => absurd h (by decide)⟩ (Nat.le_refl _) hi (by decide)
end Go.Proofs.Ythgahepldlicbaa.BP
