/- The own texts that the statement RegionKnown leans on: Codec, Crc, CrcL, SupP, CodecF, BRdr, BRdr2, BStr, BPut, BOwn, BAsk, Dir, BRdrInt, QRdr, REnt, RGetP, RRootP, RAgainP, SupP2, SupW, SupOpen, CrcW, BStrW, CodecR, SupBuf, SupPut, RNext, SupGet. -/
import Derived.RowKit
import Derived.Laws.BitsLemmas
import Derived.Laws.BitsAllLaws
import Derived.Test.YtijjecnmdhefbaaDoorPRegionKnownx1
import Derived.Lib.Hide
import Derived.Deep.Slices
import Derived.Deep.Fields
import Derived.ChangeSame
import Derived.DataShut
import Derived.Test.YtijjecnmdhefbaaDoorPRegionKnownx2
import Derived.Outline
import Derived.Test.YtijjecnmdhefbaaDoorPRegionSupersx1
import Derived.Deep.MidRow
import Derived.OpenShut
import Derived.ChangeArms
import Derived.WideShapes
import Derived.Lib.SmallJoins
import Derived.Test.YtijjecnmdhefbaaDoorPRegionSupersx2
import Derived.Test.YtijjecnmdhefbaaDoorShelf
import Derived.Lib.SlBytesConst
import Derived.Deep.DeepCutAuto
import Derived.Lib.ConvBytes
namespace Go.Proofs.YtijjecnmdhefbaaDoor.CD
set_option linter.unusedVariables false
set_option linter.unusedSimpArgs false

def Bytes (l : List Int) : Prop := ∀ x ∈ l, 0 ≤ x ∧ x < 256
theorem Bytes.nil : Bytes [] := fun _ h => by cases h
theorem Bytes.cons {c : Int} {l : List Int} (h : Bytes (c :: l)) : (0 ≤ c ∧ c < 256) ∧ Bytes l := ⟨h c (by simp), fun x hx => h x (by simp [hx])⟩
theorem Bytes.mk {c : Int} {l : List Int} (hc : 0 ≤ c ∧ c < 256) (h : Bytes l) : Bytes (c :: l) := fun x hx => by
  rcases List.mem_cons.1 hx with rfl | hx
  · exact hc
  · exact h x hx
theorem Bytes.append {l m : List Int} (h : Bytes l) (k : Bytes m) : Bytes (l ++ m) := fun x hx => by
  rcases List.mem_append.1 hx with hx | hx
  · exact h x hx
  · exact k x hx
theorem Bytes.drop {l : List Int} (h : Bytes l) (n : Nat) : Bytes (l.drop n) := fun x hx => h x (List.mem_of_mem_drop hx)
theorem Bytes.take {l : List Int} (h : Bytes l) (n : Nat) : Bytes (l.take n) := fun x hx => h x (List.mem_of_mem_take hx)

def numF : Nat → Nat → List Int
  | 0, n => [(n : Int)]
  | k + 1, n => if n < 128 then [(n : Int)] else ((n % 128 + 128 : Nat) : Int) :: numF k (n / 128)
def num (n : Nat) : List Int := numF 9 n
def decF : Nat → Nat → List Int → Nat × Nat
  | _, _, [] => (0, 0)
  | i, acc, c :: l => if (i = 9 ∧ c > 1) ∨ (i > 0 ∧ c = 0) then (0, 0) else if c < 128 then (acc + c.toNat * 128 ^ i, i + 1) else decF (i + 1) (acc + c.toNat % 128 * 128 ^ i) l
def dec (l : List Int) : Nat × Nat := decF 0 0 l

theorem numF_pos (k n : Nat) : 1 ≤ (numF k n).length := by cases k <;> simp [numF]; split <;> simp
theorem numF_le : ∀ (k n : Nat), (numF k n).length ≤ k + 1
  | 0, n => by simp [numF]
  | k + 1, n => by
    simp only [numF]
    split
    · simp
    · simp only [List.length_cons]
      have := numF_le k (n / 128)
      omega
theorem numF_small (k n : Nat) (h : n < 128) : numF k n = [(n : Int)] := by cases k <;> simp [numF, h]
theorem numF_big (k n : Nat) (h : 128 ≤ n) : numF (k + 1) n = ((n % 128 + 128 : Nat) : Int) :: numF k (n / 128) := by simp [numF, Nat.not_lt.2 h]
theorem pow_step (i : Nat) : 128 ^ (i + 1) = 128 * 128 ^ i := by rw [Nat.pow_succ, Nat.mul_comm]
theorem split_group (n p : Nat) : n % 128 * p + n / 128 * (128 * p) = n * p := by
  have h : n = 128 * (n / 128) + n % 128 := by omega
  calc n % 128 * p + n / 128 * (128 * p) = (128 * (n / 128) + n % 128) * p := by
        rw [Nat.add_mul, Nat.mul_comm 128 (n / 128), Nat.mul_assoc]; omega
    _ = n * p := by rw [← h]

theorem decF_num : ∀ (k i acc n : Nat) (rest : List Int), i + k = 9 → n * 128 ^ i < 18446744073709551616 → (0 < i → 0 < n) →
    decF i acc (numF k n ++ rest) = (acc + n * 128 ^ i, i + (numF k n).length)
  | 0, i, acc, n, rest, hi, hn, h0 => by
    obtain rfl : i = 9 := by omega
    have h1 : n ≤ 1 := by simp only [show (128 : Nat) ^ 9 = 9223372036854775808 by decide] at hn; omega
    have h2 := h0 (by omega)
    simp only [numF, List.cons_append, List.nil_append, decF]
    rw [if_neg (by omega), if_pos (by omega)]
    simp
  | k + 1, i, acc, n, rest, hi, hn, h0 => by
    by_cases h : n < 128
    · rw [numF_small _ _ h]
      simp only [List.cons_append, List.nil_append, decF]
      rw [if_neg (by omega), if_pos (by omega)]
      simp
    · rw [numF_big k n (by omega)]
      simp only [List.cons_append, decF]
      rw [if_neg (by omega), if_neg (by omega)]
      have e : ((((n % 128 + 128 : Nat) : Int)).toNat % 128) = n % 128 := by omega
      have hs := split_group n (128 ^ i)
      rw [e, decF_num k (i + 1) _ (n / 128) rest (by omega) (by rw [pow_step]; omega) (by omega), pow_step]
      simp only [List.length_cons, Prod.mk.injEq]
      omega
theorem dec_num (n : Nat) (rest : List Int) (hn : n < 18446744073709551616) : dec (num n ++ rest) = (n, (num n).length) := by
  unfold dec num
  rw [decF_num 9 0 0 n rest rfl (by simpa using hn) (by omega)]
  simp
theorem decF_back : ∀ (l : List Int) (i acc m k : Nat), Bytes l → i ≤ 9 → decF i acc l = (m, k) → k ≠ 0 →
    ∃ n rest, l = numF (9 - i) n ++ rest ∧ k = i + (numF (9 - i) n).length ∧ m = acc + n * 128 ^ i ∧ n * 128 ^ i < 18446744073709551616 ∧ (0 < i → 0 < n)
  | [], i, acc, m, k, hb, hi, h, hk => by
    simp only [decF, Prod.mk.injEq] at h
    omega
  | c :: l, i, acc, m, k, hb, hi, h, hk => by
    obtain ⟨hc, hl⟩ := hb.cons
    simp only [decF] at h
    by_cases h1 : (i = 9 ∧ c > 1) ∨ (i > 0 ∧ c = 0)
    · rw [if_pos h1] at h
      simp only [Prod.mk.injEq] at h
      omega
    · rw [if_neg h1] at h
      by_cases h2 : c < 128
      · rw [if_pos h2] at h
        simp only [Prod.mk.injEq] at h
        refine ⟨c.toNat, l, ?_, ?_, h.1.symm, ?_, by omega⟩
        · rw [numF_small _ _ (by omega), show ((c.toNat : Nat) : Int) = c by omega]
          rfl
        · rw [numF_small _ _ (by omega)]
          simp
          omega
        · by_cases h9 : i = 9
          · subst h9
            have : c.toNat ≤ 1 := by omega
            simp only [show (128 : Nat) ^ 9 = 9223372036854775808 by decide]
            omega
          · have h3 : 128 ^ i ≤ 128 ^ 8 := Nat.pow_le_pow_right (by decide) (by omega)
            have h4 : c.toNat * 128 ^ i ≤ 127 * 128 ^ 8 := Nat.mul_le_mul (by omega) h3
            simp only [show 127 * (128 : Nat) ^ 8 = 9151314442816847872 by decide] at h4
            omega
      · rw [if_neg h2] at h
        have h9 : i ≠ 9 := fun h9 => h1 (.inl ⟨h9, by omega⟩)
        obtain ⟨n, rest, e1, e2, e3, e4, e5⟩ := decF_back l (i + 1) _ m k hl (by omega) h hk
        have hn := e5 (by omega)
        have hs := split_group (128 * n + c.toNat % 128) (128 ^ i)
        have q1 : (128 * n + c.toNat % 128) % 128 = c.toNat % 128 := by omega
        have q2 : (128 * n + c.toNat % 128) / 128 = n := by omega
        rw [q1, q2] at hs
        rw [pow_step] at e3 e4
        refine ⟨128 * n + c.toNat % 128, rest, ?_, ?_, by omega, ?_, by omega⟩
        · rw [show 9 - i = (9 - (i + 1)) + 1 by omega, numF_big _ _ (by omega), q1, q2, e1, show ((c.toNat % 128 + 128 : Nat) : Int) = c by omega]
          rfl
        · rw [show 9 - i = (9 - (i + 1)) + 1 by omega, numF_big _ _ (by omega), q2, e2, List.length_cons]
          omega
        · -- what is added fits: all the lower groups together are below the next one's weight
          have h5 : n * (128 * 128 ^ i) + 127 * 128 ^ i < 18446744073709551616 := by
            have hi8 : i ≤ 8 := by omega
            have d : 18446744073709551616 = 2 * 128 ^ (8 - i) * (128 * 128 ^ i) := by
              have : 128 ^ (8 - i) * 128 ^ i = 128 ^ 8 := by rw [← Nat.pow_add]; congr 1; omega
              calc 18446744073709551616 = 2 * (128 * 128 ^ 8) := by decide
                _ = 2 * 128 ^ (8 - i) * (128 * 128 ^ i) := by rw [← this]; simp only [Nat.mul_assoc, Nat.mul_left_comm]
            have hp : 0 < 128 ^ i := Nat.pow_pos (by decide)
            rw [d] at e4
            have : n < 2 * 128 ^ (8 - i) := Nat.lt_of_mul_lt_mul_right e4
            have : (n + 1) * (128 * 128 ^ i) ≤ 2 * 128 ^ (8 - i) * (128 * 128 ^ i) := Nat.mul_le_mul_right _ this
            rw [← d, Nat.add_mul] at this
            omega
          have h6 : c.toNat % 128 * 128 ^ i ≤ 127 * 128 ^ i := Nat.mul_le_mul_right _ (by omega)
          omega
theorem dec_back (l : List Int) (hb : Bytes l) (m k : Nat) (h : dec l = (m, k)) (hk : k ≠ 0) : m < 18446744073709551616 ∧ k = (num m).length ∧ l = num m ++ l.drop k ∧ k ≤ l.length ∧ 1 ≤ k ∧ k ≤ 10 := by
  obtain ⟨n, rest, e1, e2, e3, e4, _⟩ := decF_back l 0 0 m k hb (by omega) h hk
  have hn : n = m := by rw [e3]; simp
  subst hn
  have h1 : k = (num n).length := by rw [e2]; simp [num]
  have h2 : l = num n ++ rest := e1
  refine ⟨by simpa using e4, h1, ?_, ?_, ?_, ?_⟩
  · rw [h1, h2, List.drop_left]
  · rw [h1, h2, List.length_append]; omega
  · rw [h1]; exact numF_pos _ _
  · rw [h1]; exact numF_le 9 n
theorem num_pos (n : Nat) : 1 ≤ (num n).length := numF_pos 9 n
theorem num_le (n : Nat) : (num n).length ≤ 10 := numF_le 9 n
theorem numF_bytes : ∀ (k i n : Nat), i + k = 9 → n * 128 ^ i < 18446744073709551616 → Bytes (numF k n)
  | 0, i, n, hi, hn => by
    obtain rfl : i = 9 := by omega
    have h1 : n ≤ 1 := by simp only [show (128 : Nat) ^ 9 = 9223372036854775808 by decide] at hn; omega
    exact Bytes.mk (by omega) Bytes.nil
  | k + 1, i, n, hi, hn => by
    by_cases h : n < 128
    · rw [numF_small _ _ h]
      exact Bytes.mk (by omega) Bytes.nil
    · rw [numF_big k n (by omega)]
      have hs := split_group n (128 ^ i)
      exact Bytes.mk (by omega) (numF_bytes k (i + 1) (n / 128) (by omega) (by rw [pow_step]; omega))
theorem num_bytes (n : Nat) (hn : n < 18446744073709551616) : Bytes (num n) := numF_bytes 9 0 n rfl (by simpa using hn)
def fixed : Nat → Nat → List Int
  | 0, _ => []
  | w + 1, n => ((n % 256 : Nat) : Int) :: fixed w (n / 256)
theorem fixed_length : ∀ (w n : Nat), (fixed w n).length = w
  | 0, _ => rfl
  | w + 1, n => by simp [fixed, fixed_length w]
theorem fixed_bytes : ∀ (w n : Nat), Bytes (fixed w n)
  | 0, _ => Bytes.nil
  | w + 1, n => Bytes.mk (by omega) (fixed_bytes w _)
def zig (i : Int) : Nat := if 0 ≤ i then (2 * i).toNat else (-2 * i - 1).toNat
def zag (n : Nat) : Int := if n % 2 = 0 then ((n / 2 : Nat) : Int) else -((n / 2 : Nat) : Int) - 1
theorem zag_zig (i : Int) : zag (zig i) = i := by
  unfold zag zig
  split <;> split <;> omega
theorem zig_lt (i : Int) (h : -9223372036854775808 ≤ i ∧ i < 9223372036854775808) : zig i < 18446744073709551616 := by
  unfold zig
  split <;> omega
end Go.Proofs.YtijjecnmdhefbaaDoor.CD

namespace Go.Proofs.YtijjecnmdhefbaaDoor.CK
set_option linter.unusedVariables false
def halves : List Nat := [0x00000000, 0x105ec76f, 0x20bd8ede, 0x30e349b1, 0x417b1dbc, 0x5125dad3, 0x61c69362, 0x7198540d, 0x82f63b78, 0x92a8fc17, 0xa24bb5a6, 0xb21572c9, 0xc38d26c4, 0xd3d3e1ab, 0xe330a81a, 0xf36e6f75]
def T (i : Nat) : Nat := halves.getD i 0
def nib (s : Nat) : Nat := (s >>> 4) ^^^ T (s % 16)
theorem T_lt : ∀ i < 16, T i < 4294967296 := by decide +kernel
theorem nib_lt (s : Nat) (h : s < 4294967296) : nib s < 4294967296 := by
  unfold nib
  have h1 : s >>> 4 < 2 ^ 32 := by rw [Nat.shiftRight_eq_div_pow]; omega
  have h2 : T (s % 16) < 2 ^ 32 := T_lt _ (Nat.mod_lt _ (by decide))
  exact Nat.xor_lt_two_pow h1 h2
def stepB (s b : Nat) : Nat := nib (nib (s ^^^ b))
def sumF (s : Nat) (l : List Nat) : Nat := l.foldl stepB s
def crc (l : List Nat) : Nat := sumF 4294967295 l ^^^ 4294967295
def Byt (l : List Nat) : Prop := ∀ x ∈ l, x < 256
theorem xor_lt (s b : Nat) (hs : s < 4294967296) (hb : b < 256) : s ^^^ b < 4294967296 := Nat.xor_lt_two_pow (n := 32) hs (by omega)
theorem stepB_lt (s b : Nat) (hs : s < 4294967296) (hb : b < 256) : stepB s b < 4294967296 := nib_lt _ (nib_lt _ (xor_lt s b hs hb))
theorem sumF_lt : ∀ (l : List Nat) (s : Nat), s < 4294967296 → Byt l → sumF s l < 4294967296
  | [], s, hs, _ => hs
  | b :: l, s, hs, h => sumF_lt l _ (stepB_lt s b hs (h b List.mem_cons_self)) (fun x hx => h x (List.mem_cons_of_mem _ hx))
theorem crc_lt (l : List Nat) (hl : Byt l) : crc l < 4294967296 := Nat.xor_lt_two_pow (n := 32) (sumF_lt l _ (by decide) hl) (by decide)
end Go.Proofs.YtijjecnmdhefbaaDoor.CK

namespace Go.Proofs.YtijjecnmdhefbaaDoor.CK
theorem i32_xor (a b : Nat) (ha : a < 4294967296) (hb : b < 4294967296) : bits .xor .u32 (a : Int) (b : Int) = ((a ^^^ b : Nat) : Int) := u32_xor_nat a b ha hb
theorem i32_low (a : Nat) (ha : a < 4294967296) : bits .and .u32 (a : Int) 15 = ((a % 16 : Nat) : Int) := by
  have := u32_and_nat a 15 ha (by decide)
  rw [nat_mask4] at this
  exact this
theorem i32_not (a : Nat) (ha : a < 4294967296) : bits .xor .u32 IntKind.u32.max (a : Int) = ((a ^^^ 4294967295 : Nat) : Int) := by
  have := u32_xor_nat 4294967295 a (by decide) ha
  rw [Nat.xor_comm] at this
  exact this
end Go.Proofs.YtijjecnmdhefbaaDoor.CK

namespace Go.Proofs.YtijjecnmdhefbaaDoor.SP
open Go.Proofs.YtijjecnmdhefbaaDoor.CD Go.Proofs.YtijjecnmdhefbaaDoor.CK
set_option linter.unusedVariables false
structure Anc where
  on : Bool
  x : Int
  y : Int
  z : Int
structure Sup where
  sectors : Int
  seed : Nat
  now : Int
  a : Anc
  b : Anc
  placed : Int
  broken : Int
  grown : Int
  burnt : Int
  head : Int
  size : Int
  saves : Int
def nums (l : List Int) : List Int := (l.map fun n => num n.toNat).flatten
def ancB (a : Anc) : List Int := num (if a.on then 1 else 0) ++ (num (zig a.x) ++ (num (zig a.y) ++ num (zig a.z)))
def magic : List Int := [66, 69, 68, 82, 79, 67, 75, 49]
def body (s : Sup) : List Int := magic ++ (num s.sectors.toNat ++ (num s.seed ++ (num s.now.toNat ++ (ancB s.a ++ (ancB s.b ++ nums [s.placed, s.broken, s.grown, s.burnt, s.head, s.size, s.saves])))))
def data (s : Sup) : List Int := body s ++ List.replicate (508 - (body s).length) 0
def sumI (l : List Int) : Nat := crc (l.map Int.toNat)
def sealB (l : List Int) : List Int := l ++ fixed 4 (sumI l)
def putS (s : Sup) : List Int := sealB (data s)
theorem ancB_le (a : Anc) : (ancB a).length ≤ 40 := by
  unfold ancB
  simp only [List.length_append]
  have h1 := num_le (if a.on then 1 else 0)
  have h2 := num_le (zig a.x)
  have h3 := num_le (zig a.y)
  have h4 := num_le (zig a.z)
  omega
theorem nums_le : ∀ l : List Int, (nums l).length ≤ 10 * l.length
  | [] => by simp [nums]
  | n :: l => by
    have h1 := num_le n.toNat
    have h2 := nums_le l
    have e : nums (n :: l) = num n.toNat ++ nums l := rfl
    rw [e, List.length_append, List.length_cons]
    omega
theorem body_le (s : Sup) : (body s).length ≤ 188 := by
  unfold body
  simp only [List.length_append]
  have h1 := num_le s.sectors.toNat
  have h2 := num_le s.seed
  have h3 := num_le s.now.toNat
  have h4 := ancB_le s.a
  have h5 := ancB_le s.b
  have h6 := nums_le [s.placed, s.broken, s.grown, s.burnt, s.head, s.size, s.saves]
  have h7 : magic.length = 8 := rfl
  simp only [List.length_cons, List.length_nil] at h6
  omega
theorem data_length (s : Sup) : (data s).length = 508 := by
  have := body_le s
  unfold data
  rw [List.length_append, List.length_replicate]
  omega
theorem putS_length (s : Sup) : (putS s).length = 512 := by
  unfold putS sealB
  rw [List.length_append, data_length, fixed_length]
theorem sumI_lt (l : List Int) (h : Bytes l) : sumI l < 4294967296 :=
  crc_lt _ fun x hx => by
    obtain ⟨y, hy, rfl⟩ := List.mem_map.1 hx
    have := h y hy
    omega
end Go.Proofs.YtijjecnmdhefbaaDoor.SP

namespace Go.Proofs.YtijjecnmdhefbaaDoor.CF
open Go.RowKit Go.Proofs.YtijjecnmdhefbaaDoorW.PrintWords Go.Proofs.YtijjecnmdhefbaaDoorW.PrintLast Go.Proofs.YtijjecnmdhefbaaDoorW.PrintMore Go.Proofs.YtijjecnmdhefbaaDoor.CD
set_option linter.unusedVariables false
set_option linter.unusedSimpArgs false

theorem wu64 (n : Int) : IntKind.u64.wrap n = n % 18446744073709551616 := by simp [IntKind.wrap, IntKind.bits, IntKind.signed]
theorem wu64_id (n : Int) (h0 : 0 ≤ n) (h1 : n < 18446744073709551616) : IntKind.u64.wrap n = n := by rw [wu64]; omega
theorem or128 (x : Nat) : bits .or .u8 ((x : Int) % 256) 128 = ((x % 128 + 128 : Nat) : Int) := by
  have h : ∀ a : Fin 256, a.val ||| 128 = a.val % 128 + 128 := by decide +kernel
  have e : ((x : Int) % 256) = ((x % 256 : Nat) : Int) := by omega
  rw [e, show (128 : Int) = ((128 : Nat) : Int) from rfl, (bits_nat .u8 8 (by decide) wraps_u8 (x % 256) 128 (by omega) (by decide)).2, h ⟨x % 256, by omega⟩]
  show ((x % 256 % 128 + 128 : Nat) : Int) = _
  omega
theorem and127 (x : Nat) (hx : x < 256) : bits .and .u8 (x : Int) 127 = ((x % 128 : Nat) : Int) := by
  have := bits_mask .u8 8 (by decide) wraps_u8 7 (by decide) (x : Int) (by omega) (by omega)
  rw [show (2 : Int) ^ 7 - 1 = 127 by decide, show (2 : Int) ^ 7 = 128 by decide] at this
  rw [this]; omega
theorem put_l0 : ∀ (k j n : Nat) (x : List Int), n < 128 ^ (k + 1) → x.length + k < 140737488355328 → k < j → PRegionKnown.bytes_Put.l0 j (n : Int) x = some (x ++ numF k n)
  | 0, j, n, x, hn, hx, hj => by
    obtain ⟨j, rfl⟩ : ∃ m, j = m + 1 := ⟨j - 1, by omega⟩
    simp only [PRegionKnown.bytes_Put.l0, numF]
    rw [if_neg (by omega), if_pos (by omega), show ((n : Int) % 256) = (n : Int) by omega]
  | k + 1, j, n, x, hn, hx, hj => by
    obtain ⟨j, rfl⟩ : ∃ m, j = m + 1 := ⟨j - 1, by omega⟩
    simp only [PRegionKnown.bytes_Put.l0]
    by_cases h : n < 128
    · rw [numF_small _ _ h, if_neg (by omega), if_pos (by omega), show ((n : Int) % 256) = (n : Int) by omega]
    · rw [numF_big k n (by omega), if_pos (by omega), if_pos (by omega), or128, show ((n : Int) / 128) = ((n / 128 : Nat) : Int) by omega]
      rw [put_l0 k j (n / 128) _ (by rw [Nat.pow_succ] at hn; omega) (by simp; omega) (by omega)]
      simp
theorem put_f (n : Nat) (l : List Int) (hn : n < 18446744073709551616) (hl : l.length < 140737488355000) : PRegionKnown.bytes_Put.f 12 l (n : Int) = some (l ++ num n) := by
  unfold PRegionKnown.bytes_Put.f
  simp only [Option.bind_some, List.length_nil, Nat.zero_add, List.nil_append]
  rw [if_pos (by omega)]
  exact put_l0 9 12 n l (by omega) (by omega) (by omega)

theorem or_shl (acc c i : Nat) (ha : acc < 128 ^ i) (hi : i ≤ 9) (hc : c % 128 * 128 ^ i < 18446744073709551616) :
    bits .or .u64 (acc : Int) (shl .u64 (IntKind.u64.wrap ((c % 128 : Nat) : Int)) (7 * (i : Int))) = ((acc + c % 128 * 128 ^ i : Nat) : Int) := by
  have hp : (128 : Nat) ^ i = 2 ^ (7 * i) := by rw [show (128 : Nat) = 2 ^ 7 by decide, ← Nat.pow_mul]
  have hlt : acc < 18446744073709551616 := by
    have : 128 ^ i ≤ 128 ^ 9 := Nat.pow_le_pow_right (by decide) hi
    simp only [show (128 : Nat) ^ 9 = 9223372036854775808 by decide] at this
    omega
  have e1 : shl .u64 (IntKind.u64.wrap ((c % 128 : Nat) : Int)) (7 * (i : Int)) = ((c % 128 * 128 ^ i : Nat) : Int) := by
    unfold shl
    rw [wu64_id ((c % 128 : Nat) : Int) (by omega) (by omega), show (7 * (i : Int)).toNat = 7 * i by omega, Nat.min_eq_left (by simp only [IntKind.bits]; omega)]
    rw [show ((c % 128 : Nat) : Int) * 2 ^ (7 * i) = ((c % 128 * 128 ^ i : Nat) : Int) by rw [hp]; simp]
    exact wu64_id _ (by omega) (by omega)
  rw [e1, (bits_nat .u64 64 (by decide) (fun n a b => wu64_id n a (by simpa using b)) acc (c % 128 * 128 ^ i) (by omega) (by omega)).2]
  congr 1
  rw [Nat.or_comm, hp, Nat.mul_comm, ← Nat.two_pow_add_eq_or_of_lt (by rw [← hp]; exact ha) (c % 128)]
  omega

def ints (p : Nat × Nat) : Int × Int := ((p.1 : Int), (p.2 : Int))
theorem number_l0 (L : List Int) (hL : Bytes L) (hlen : L.length ≤ 140737488355328) : ∀ (d : Nat) (k i acc : Nat), d = L.length - i → i ≤ L.length → i ≤ 9 → acc < 128 ^ i → 2 * d < k →
    PRegionKnown.bytes_number.l0 k (acc : Int) L (L.length : Int) (i : Int) = some (ints (decF i acc (L.drop i)))
  | 0, k, i, acc, hd, hi, h9, ha, hk => by
    obtain ⟨k, rfl⟩ : ∃ m, k = m + 1 := ⟨k - 1, by omega⟩
    simp only [PRegionKnown.bytes_number.l0]
    rw [if_neg (by omega), List.drop_eq_nil_of_le (by omega)]
    rfl
  | d + 1, k, i, acc, hd, hi, h9, ha, hk => by
    obtain ⟨k, rfl⟩ : ∃ m, k = m + 2 := ⟨k - 2, by omega⟩
    have hlt : i < L.length := by omega
    have hr : rd L (i : Int) = L[i] := by simp [rd, List.getD_eq_getElem?_getD, List.getElem?_eq_getElem hlt]
    obtain ⟨hc0, hc1⟩ := hL _ (List.getElem_mem hlt)
    obtain ⟨c, hc⟩ : ∃ c : Nat, L[i] = (c : Int) := ⟨L[i].toNat, by omega⟩
    rw [hc] at hc0 hc1 hr
    have q1 : (i : Int) < (L.length : Int) := by omega
    have q2 : 0 ≤ (i : Int) := by omega
    have q3 : (i : Int) = 9 → (i : Int) > 0 := by omega
    have F1 : (i : Int) = 9 → (c : Int) > 1 → (true = true ↔ (i = 9 ∧ (c : Int) > 1) ∨ (i > 0 ∧ (c : Int) = 0)) := fun a b => ⟨fun _ => by omega, fun _ => rfl⟩
    have F2 : (i : Int) = 9 → ¬ (c : Int) > 1 → (((c : Int) == 0) = true ↔ (i = 9 ∧ (c : Int) > 1) ∨ (i > 0 ∧ (c : Int) = 0)) := fun a b => by rw [beq_iff_eq]; omega
    have F3 : ¬ (i : Int) = 9 → (i : Int) > 0 → (((c : Int) == 0) = true ↔ (i = 9 ∧ (c : Int) > 1) ∨ (i > 0 ∧ (c : Int) = 0)) := fun a b => by rw [beq_iff_eq]; omega
    have F4 : ¬ (i : Int) = 9 → ¬ (i : Int) > 0 → (false = true ↔ (i = 9 ∧ (c : Int) > 1) ∨ (i > 0 ∧ (c : Int) = 0)) := fun a b => ⟨fun h => absurd h (by decide), fun h => by omega⟩
    have hw7 : wrap64 (7 * (i : Int)) = 7 * (i : Int) := by unfold wrap64; omega
    have hw1 : wrap64 ((i : Int) + 1) = ((i + 1 : Nat) : Int) := by unfold wrap64; omega
    have hdrop : L.drop i = (c : Int) :: L.drop (i + 1) := by rw [List.drop_eq_getElem_cons hlt, hc]
    have hj : ∀ b : Bool, (b = true ↔ (i = 9 ∧ (c : Int) > 1) ∨ (i > 0 ∧ (c : Int) = 0)) → PRegionKnown.bytes_number.j1 (k + 1) (acc : Int) (i : Int) (c : Int) L (L.length : Int) (i : Int) b = some (ints (decF i acc (L.drop i))) := by
      intro b hb
      simp only [PRegionKnown.bytes_number.j1, hw7, hw1]
      rw [hdrop]
      clear hw7 hw1 hr hdrop F1 F2 F3 F4
      simp only [decF]
      by_cases hbt : b = true
      · rw [if_pos hbt, if_pos (hb.1 hbt)]
        rfl
      · have hnot := fun h => hbt (hb.2 h)
        have hfit : c % 128 * 128 ^ i < 18446744073709551616 := by
          by_cases h9' : i = 9
          · have : c ≤ 1 := Nat.le_of_not_lt (fun h => hnot (.inl ⟨h9', by omega⟩))
            rw [h9', show (128 : Nat) ^ 9 = 9223372036854775808 by decide]; omega
          · have h3 : 128 ^ i ≤ 128 ^ 8 := Nat.pow_le_pow_right (by decide) (by omega)
            have h4 : c % 128 * 128 ^ i ≤ 127 * 128 ^ 8 := Nat.mul_le_mul (by omega) h3
            simp only [show 127 * (128 : Nat) ^ 8 = 9151314442816847872 by decide] at h4
            omega
        rw [if_neg hbt, if_neg hnot, if_pos (by omega), and127 c (by omega), or_shl acc c i ha h9 hfit]
        by_cases hlow : (c : Int) < 128
        · rw [if_pos hlow, if_pos hlow]
          have : c % 128 = c := by omega
          simp only [ints, this, Int.toNat_natCast]
        · rw [if_neg hlow, if_neg hlow]
          have h9' : i ≠ 9 := fun h => hnot (.inl ⟨h, by omega⟩)
          simp only [Int.toNat_natCast]
          refine number_l0 L hL hlen d k (i + 1) _ (by omega) (by omega) (by omega) ?_ (by omega)
          rw [pow_step]
          have : c % 128 * 128 ^ i ≤ 127 * 128 ^ i := Nat.mul_le_mul_right _ (by omega)
          omega
    simp only [PRegionKnown.bytes_number.l0]
    rw [if_pos q1, if_pos q2, if_pos q1, hr]
    by_cases a : (i : Int) = 9
    · rw [if_pos a]
      by_cases b : (c : Int) > 1
      · rw [if_pos b]; exact hj true (F1 a b)
      · rw [if_neg b, if_pos (q3 a)]; exact hj _ (F2 a b)
    · rw [if_neg a]
      by_cases b : (i : Int) > 0
      · rw [if_pos b]; exact hj _ (F3 a b)
      · rw [if_neg b]; exact hj false (F4 a b)
theorem number_f (L : List Int) (hL : Bytes L) (hlen : L.length ≤ 140737488355328) : PRegionKnown.bytes_number.f (2 * L.length + 1) L = some (((dec L).1 : Int), ((dec L).2 : Int)) := by
  have := number_l0 L hL hlen L.length (2 * L.length + 1) 0 0 (by omega) (by omega) (by omega) (by simp) (by omega)
  rw [List.drop_zero] at this
  exact this
end Go.Proofs.YtijjecnmdhefbaaDoor.CF

namespace Go.Proofs.YtijjecnmdhefbaaDoor.BR
open Go.RowKit Go.Proofs.YtijjecnmdhefbaaDoorW.PrintWords Go.Proofs.YtijjecnmdhefbaaDoorW.PrintLast Go.Proofs.YtijjecnmdhefbaaDoorW.PrintMore Go.Proofs.YtijjecnmdhefbaaDoor.CD
set_option linter.unusedVariables false
set_option linter.unusedSimpArgs false

theorem gset {a w : World} {b : Nat} (h : a.grownBy w (some b)) (i : Nat) (v : Value) : a.grownBy (w.setCell ⟨b, i, none⟩ v) (some b) :=
  ⟨h.os, h.tape, h.output, Nat.le_trans h.size (by simp [World.setCell]), fun k hk hne => (Below.heap_setCell w _ _ k (by intro e; exact hne (by rw [e]))).trans (h.block k hk hne)⟩
theorem gdrewN {a w : World} {row : Option Nat} (h : a.grownBy w row) (n : Nat) : a.grownBy (w.drewN n) row := ⟨h.os, h.tape, h.output, h.size, h.block⟩
theorem gbelow {a w w' : World} {row : Option Nat} (h : a.grownBy w row) (hb : Below w.heap.size w w') : a.grownBy w' row :=
  ⟨hb.os.trans h.os, hb.tape.trans h.tape, hb.output.trans h.output, Nat.le_trans h.size hb.size, fun k hk hne => (hb.block k (Nat.lt_of_lt_of_le hk h.size)).trans (h.block k hk hne)⟩
theorem gtrans {a w w' : World} {row : Option Nat} (h : a.grownBy w row) (k : w.grownBy w' row) : a.grownBy w' row := World.grownBy.trans h k
theorem gofBelow {w w1 : World} {row : Option Nat} (h : Below w.heap.size w w1) : w.grownBy w1 row := grown_of_below h row
theorem belowg {B : Nat} {a w w' : World} {g : Nat} (h : Below B a w) (hg : w.grownBy w' (some g)) (hB : B ≤ w.heap.size) (hr : B ≤ g) : Below B a w' := h.grown hg hB (fun k hk => by cases hk; exact hr)

structure Rdr (w : World) (g : Nat) (xs : List Int) (br : Bool) : Prop where
  cell : ∃ (A : Option Addr) (c : Nat), w.heap[g]? = some (.cells #[.slice A xs.length c, .bool true, .bool br] 106 (0, 0)) ∧ xs.length ≤ c ∧ ReadsInt w .u8 A xs.length xs ∧ (∀ ad, A = some ad → 0 < xs.length → ad.block ≠ g)
  small : xs.length ≤ 140737488355328
  bytes : Bytes xs
theorem Rdr.lt {w : World} {g : Nat} {xs : List Int} {br : Bool} (h : Rdr w g xs br) : g < w.heap.size := by
  obtain ⟨A, c, hb, _⟩ := h.cell
  exact blk_lt hb
theorem reads_kept {w w' : World} {A : Option Addr} {n : Nat} {xs : List Int} (h : ReadsInt w .u8 A n xs) (hk : ∀ ad, A = some ad → 0 < n → ad.block < w.heap.size → w'.heap[ad.block]? = w.heap[ad.block]?) : ReadsInt w' .u8 A n xs :=
  ⟨h.1, h.2.1, fun hn => by
    obtain ⟨ad, e, hc⟩ := h.2.2 hn
    refine ⟨ad, e, fun j hj => ?_⟩
    have hj' := hc j hj
    have hl := World.block_lt_of_cell? w _ hj'
    have hbk : (ad.add j).block = ad.block := by unfold Addr.add; split <;> rfl
    rw [hbk] at hl
    have e2 := hk ad e hn hl
    have : w'.cell? (ad.add j) = w.cell? (ad.add j) := by unfold World.cell?; rw [hbk, e2]
    rw [this]; exact hj'⟩
theorem Rdr.kept {w w' : World} {g : Nat} {xs : List Int} {br : Bool} (h : Rdr w g xs br) {row : Option Nat} (hg : w.grownBy w' row) (hne : some g ≠ row) (hdata : ∀ ad : Addr, some ad.block = row → ∀ A c, w.heap[g]? = some (.cells #[.slice A xs.length c, .bool true, .bool br] 106 (0, 0)) → 0 < xs.length → A ≠ some ad) : Rdr w' g xs br := by
  obtain ⟨A, c, hb, hc, hr, hn⟩ := h.cell
  refine ⟨⟨A, c, (hg.block g (blk_lt hb) hne).trans hb, hc, reads_kept hr fun ad e h0 hl => hg.block _ hl (fun e2 => hdata ad e2 A c hb h0 e), hn⟩, h.small, h.bytes⟩
theorem Rdr.below {w w' : World} {g : Nat} {xs : List Int} {br : Bool} (h : Rdr w g xs br) (hb : Below w.heap.size w w') : Rdr w' g xs br :=
  h.kept (gofBelow (row := none) hb) (by simp) (fun ad e => by cases e)
theorem Rdr.drewN {w : World} {g : Nat} {xs : List Int} {br : Bool} (h : Rdr w g xs br) (n : Nat) : Rdr (w.drewN n) g xs br := h.below (pw_below_drewN (Below.refl _ _) n)
theorem Rdr.breaks {w : World} {g : Nat} {xs : List Int} {br : Bool} (h : Rdr w g xs br) : Rdr (w.setCell ⟨g, 2, none⟩ (.bool true)) g xs true := by
  obtain ⟨A, c, hb, hc, hr, hn⟩ := h.cell
  refine ⟨⟨A, c, by rw [blk_set hb]; rfl, hc, reads_kept hr fun ad e h0 hl => Below.heap_setCell w _ _ _ (hn ad e h0), hn⟩, h.small, h.bytes⟩
theorem cutFrom (A : Option Addr) (xs : List Int) (c m : Nat) (hm : m ≤ xs.length) (hc : xs.length ≤ c) :
    ∃ A' : Option Addr, (∀ W : World, (Instr.slice 41 (.slice A xs.length c) (some (.int .i64 (m : Int))) none none).run Tryd.prog W = .ok (.slice A' (xs.length - m) (c - m)) W) ∧
      (∀ w, ReadsInt w .u8 A xs.length xs → ReadsInt w .u8 A' (xs.drop m).length (xs.drop m)) ∧ (∀ ad', A' = some ad' → ∃ ad, A = some ad ∧ ad.block = ad'.block) := by
  obtain ⟨i0, hi, hz0, hz1, hz2⟩ := info_parts (show (Tryd.prog.info? 5).map (fun i => (i.zero, i.size, i.bytes)) = some (some (.int .u8 0), 1, 1) by kernel_rfl)
  refine ⟨if c = m then A else A.map (·.add m), fun W => ?_, fun w h => ?_, fun ad' e => ?_⟩
  · have := cut_from (P := Tryd.prog) 41 5 .i64 Tryd.underlying41 hi 1 hz1 A xs.length c (m : Int) (by omega) (by omega) W
    simpa using this
  · have := h.drop_ m hm hc
    rw [List.length_drop]
    exact this
  · split at e
    · exact ⟨ad', e, rfl⟩
    · cases A with
      | none => simp at e
      | some ad =>
        simp only [Option.map_some, Option.some.injEq] at e
        refine ⟨ad, rfl, ?_⟩
        rw [← e]
        unfold Addr.add
        split <;> rfl
theorem Rdr.moves {w : World} {g : Nat} {xs : List Int} {br : Bool} (h : Rdr w g xs br) {A : Option Addr} {c : Nat} (hb : w.heap[g]? = some (.cells #[.slice A xs.length c, .bool true, .bool br] 106 (0, 0))) {m : Nat} (hm : m ≤ xs.length) {A' : Option Addr}
    (hr : ∀ w, ReadsInt w .u8 A xs.length xs → ReadsInt w .u8 A' (xs.drop m).length (xs.drop m)) (ha : ∀ ad', A' = some ad' → ∃ ad, A = some ad ∧ ad.block = ad'.block) :
    Rdr (w.setCell ⟨g, 0, none⟩ (.slice A' (xs.length - m) (c - m))) g (xs.drop m) br := by
  obtain ⟨A2, c2, hb2, hc, hrd, hn⟩ := h.cell
  rw [hb2] at hb
  simp only [Option.some.injEq, Obj.cells.injEq, Array.mk.injEq, List.cons.injEq, Value.slice.injEq, and_true, true_and] at hb
  obtain ⟨rfl, rfl⟩ := hb
  have hl : (xs.drop m).length = xs.length - m := List.length_drop
  have hne : ∀ ad', A' = some ad' → 0 < (xs.drop m).length → ad'.block ≠ g := fun ad' e h0 => by
    obtain ⟨ad, e1, e2⟩ := ha ad' e
    rw [← e2]
    exact hn ad e1 (by omega)
  refine ⟨⟨A', c2 - m, by rw [blk_set hb2, hl]; rfl, by omega, reads_kept (hr w hrd) fun ad e h0 hlt => Below.heap_setCell w _ _ _ (hne ad e h0), hne⟩, by have := h.small; omega, h.bytes.drop m⟩

abbrev St := List Int × Bool
def rNum (s : St) : Nat × St := if s.2 then (0, s) else if (dec s.1).2 = 0 then (0, (s.1, true)) else ((dec s.1).1, (s.1.drop (dec s.1).2, false))

theorem fine_calls (g : Nat) (xs : List Int) (br : Bool) (w : World) (h : Rdr w g xs br) :
    Calls Tryd.prog 55 #[.pointer (some ⟨g, 0, none⟩)] w fun e w' => e = .returned (.bool (!br)) ∧ Drawn0 w w' := by
  obtain ⟨A, c, hb, hc, hr, hne⟩ := h.cell
  have h1 := blk_cell hb 1
  have h2 := blk_cell hb 2
  simp only [List.getElem?_toArray, List.getElem?_cons_succ, List.getElem?_cons_zero] at h1 h2
  clear hb hc hr hne h
  go_enter Tryd.func55, Tryd.ntmps55
  go_wp2
  go_ret
  exact ⟨rfl, by repeat (first | exact Drawn0.refl _ | apply Drawn0.step)⟩
theorem number_calls (A : Option Addr) (c : Nat) (xs : List Int) (w : World) (hr : ReadsInt w .u8 A xs.length xs) (hc : xs.length ≤ c) (hb : Bytes xs) (hs : xs.length ≤ 140737488355328) :
    Calls Tryd.prog 56 #[.slice A xs.length c] w fun e w' => e = .returned (.tuple #[.int .u64 ((dec xs).1 : Int), .int .i64 ((dec xs).2 : Int)]) ∧ Drawn0 w w' :=
  PRegionKnown.bytes_number.calls _ A c xs _ _ w (Kd.C_of_reads (d := (0 : Int)) (h1 := fun _ => rfl) hr) hc (CF.number_f xs hb hs)
theorem num_broken (g : Nat) (xs : List Int) (w : World) (h : Rdr w g xs true) :
    Calls Tryd.prog 32 #[.pointer (some ⟨g, 0, none⟩)] w fun e w' => e = .returned (.int .u64 0) ∧ Rdr w' g xs true ∧ w.grownBy w' (some g) := by
  have H := Lib.hid h
  clear h
  go_enter Tryd.func32, Tryd.ntmps32
  go_wp2_with (go_at_call 55; refine (fine_calls g xs true _ H.out).mono ?_; rintro e w' ⟨rfl, ⟨nd, rfl⟩⟩)
  go_ret
  exact ⟨rfl, H.out.drewN _, gdrewN (World.grownBy.refl _ _) _⟩
theorem num_no (g : Nat) (xs : List Int) (w : World) (h : Rdr w g xs false) (hk : (dec xs).2 = 0) :
    Calls Tryd.prog 32 #[.pointer (some ⟨g, 0, none⟩)] w fun e w' => e = .returned (.int .u64 0) ∧ Rdr w' g xs true ∧ w.grownBy w' (some g) := by
  have H := Lib.hid h
  obtain ⟨A, c, hb, hc, hr, hne⟩ := h.cell
  have h0 := blk_cell hb 0
  have h2 := blk_cell hb 2
  have f2 := blk_frozen hb 2
  simp only [List.getElem?_toArray, List.getElem?_cons_succ, List.getElem?_cons_zero] at h0 h2
  have HN0 := fun w' (hd : ReadsInt w' .u8 A xs.length xs) => number_calls A c xs w' hd hc h.bytes h.small
  rw [hk] at HN0
  have HN := Lib.hid HN0
  have Hr := Lib.hid hr
  clear hb hc hr hne h hk HN0
  go_enter Tryd.func32, Tryd.ntmps32
  go_wp2_with (first | (go_at_call 55; refine (fine_calls g xs false _ H.out).mono ?_; rintro e w' ⟨rfl, ⟨nd, rfl⟩⟩) | (go_at_call 56; refine (HN.out _ (Hr.out.below (pw_below_drewN (Below.refl _ _) _))).mono ?_; rintro e w' ⟨rfl, ⟨nd2, rfl⟩⟩))
  go_ret
  exact ⟨rfl, (H.out.drewN _).breaks, gset (gdrewN (World.grownBy.refl _ _) _) _ _⟩
set_option maxRecDepth 100000 in
theorem num_ok (g : Nat) (xs : List Int) (w : World) (h : Rdr w g xs false) (m k : Nat) (hd : dec xs = (m, k)) (hk : k ≠ 0) :
    Calls Tryd.prog 32 #[.pointer (some ⟨g, 0, none⟩)] w fun e w' => e = .returned (.int .u64 (m : Int)) ∧ Rdr w' g (xs.drop k) false ∧ w.grownBy w' (some g) := by
  have H := Lib.hid h
  obtain ⟨A, c, hb, hc, hr, hne⟩ := h.cell
  have hkl := (dec_back xs h.bytes m k hd hk).2.2.2.1
  have h0 := blk_cell hb 0
  have f0 := blk_frozen hb 0
  simp only [List.getElem?_toArray, List.getElem?_cons_succ, List.getElem?_cons_zero] at h0
  obtain ⟨A', hcut, hrd, hA'⟩ := cutFrom A xs c k hkl hc
  have HB := Lib.hid hb
  have HM := Lib.hid hrd
  have HA := Lib.hid hA'
  have HN0 := fun w' (hd : ReadsInt w' .u8 A xs.length xs) => number_calls A c xs w' hd hc h.bytes h.small
  rw [hd] at HN0
  have HN := Lib.hid HN0
  have Hr := Lib.hid hr
  have hk0 : (((k : Nat) : Int) == 0) = false := by rw [beq_eq_false_iff_ne]; omega
  have hk1 : ((k : Nat) : Int) ≤ (xs.length : Int) := by omega
  have Hkl := Lib.hid hkl
  clear hb hc hr hne h hd hk HN0 hrd hA' hkl
  go_enter Tryd.func32, Tryd.ntmps32
  go_wp2_with (first | (go_at_call 55; refine (fine_calls g xs false _ H.out).mono ?_; rintro e w' ⟨rfl, ⟨nd, rfl⟩⟩) | (go_at_call 56; refine (HN.out _ (Hr.out.below (pw_below_drewN (Below.refl _ _) _))).mono ?_; rintro e w' ⟨rfl, ⟨nd2, rfl⟩⟩))
  go_ret
  exact ⟨rfl, (H.out.drewN _).moves (blk_drewN HB.out _) Hkl.out HM.out HA.out, gset (gdrewN (World.grownBy.refl _ _) _) _ _⟩
theorem num_calls (g : Nat) (xs : List Int) (br : Bool) (w : World) (h : Rdr w g xs br) :
    Calls Tryd.prog 32 #[.pointer (some ⟨g, 0, none⟩)] w fun e w' => e = .returned (.int .u64 ((rNum (xs, br)).1 : Int)) ∧ Rdr w' g (rNum (xs, br)).2.1 (rNum (xs, br)).2.2 ∧ w.grownBy w' (some g) := by
  unfold rNum
  cases br with
  | true => exact num_broken g xs w h
  | false =>
    simp only [Bool.false_eq_true, if_false]
    by_cases hk : (dec xs).2 = 0
    · rw [if_pos hk]; exact num_no g xs w h hk
    · rw [if_neg hk]; exact num_ok g xs w h _ _ rfl hk
end Go.Proofs.YtijjecnmdhefbaaDoor.BR

namespace Go.Proofs.YtijjecnmdhefbaaDoor.BR
open Go.RowKit Go.Proofs.YtijjecnmdhefbaaDoorW.PrintWords Go.Proofs.YtijjecnmdhefbaaDoorW.PrintLast Go.Proofs.YtijjecnmdhefbaaDoorW.PrintMore Go.Proofs.YtijjecnmdhefbaaDoor.CD
set_option linter.unusedVariables false
set_option linter.unusedSimpArgs false
theorem infoU8 : (Tryd.prog.info? 5).map (fun i => (i.zero, i.size, i.bytes)) = some (some (.int .u8 0), 1, 1) := by kernel_rfl
def OB (w : World) (base : Nat) (v : Value) (l : List Int) : Prop := w.ownsRow base 5 1 v l.length (nums .u8 l)
theorem OB.of_R {w : World} {base : Nat} {ok : Nat → Prop} {v : Value} {l : List Int} (h : Kd.R (Kd.int .u8) 5 w base ok v l) : OB w base v l := Kd.own_of_R h
theorem OB.slice {w : World} {base : Nat} {v : Value} {l : List Int} (h : OB w base v l) : ∃ A c, v = .slice A l.length c ∧ l.length ≤ c ∧ ReadsInt w .u8 A l.length l := by
  obtain ⟨A, c, rfl, hr⟩ := own_reads (k := .u8) h
  exact ⟨A, c, rfl, own_le h, hr⟩
theorem OB.below {w w1 : World} {base : Nat} {v : Value} {l : List Int} (h : OB w base v l) (hb : Below w.heap.size w w1) : OB w1 base v l := pw_own_below h hb
theorem OB.reads {w : World} {base : Nat} {A : Option Addr} {c : Nat} {l : List Int} (h : OB w base (.slice A l.length c) l) : ReadsInt w .u8 A l.length l := by
  obtain ⟨A', c', he, hc, hr⟩ := h.slice
  injection he with e1 e2 e3
  subst e1
  exact hr
theorem OB.empty (W : World) (base : Nat) (hb : base ≤ W.heap.size) : OB (W.alloc (.cells #[] 5)) base (.slice (some ⟨W.heap.size, 0, none⟩) 0 0) [] := own_lit W base 5 .u8 [] hb (by simp)

theorem Rdr.new {w1 : World} {A1 : Option Addr} {c1 : Nat} {xs : List Int} (hr : ReadsInt w1 .u8 A1 xs.length xs) (hc : xs.length ≤ c1) (hb : Bytes xs) (hs : xs.length ≤ 140737488355328) :
    Rdr (w1.alloc (.cells #[.slice A1 xs.length c1, .bool true, .bool false] 106)) w1.heap.size xs false := by
  refine ⟨⟨A1, c1, blk_new _ _, hc, hr.below (below_alloc (Below.refl _ _) _), fun ad e h0 e2 => ?_⟩, hs, hb⟩
  obtain ⟨ad', e', hcell⟩ := hr.2.2 h0
  rw [e] at e'
  obtain rfl := Option.some.inj e'
  have := World.block_lt_of_cell? w1 _ (hcell 0 h0)
  have hbk : (ad.add 0).block = ad.block := by unfold Addr.add; split <;> rfl
  omega
set_option maxHeartbeats 400000 in
set_option maxRecDepth 100000 in
theorem new_calls (A : Option Addr) (c : Nat) (xs : List Int) (w : World) (hr : ReadsInt w .u8 A xs.length xs) (hc : xs.length ≤ c) (hb : Bytes xs) (hs : xs.length ≤ 140737488355328) :
    Calls Tryd.prog 29 #[.slice A xs.length c] w fun e w' => ∃ g, e = .returned (.pointer (some ⟨g, 0, none⟩)) ∧ w.heap.size ≤ g ∧ Rdr w' g xs false ∧ Below w.heap.size w w' := by
  have Hr := Lib.hid hr
  clear hr
  go_enter Tryd.func29, Tryd.ntmps29
  go_wp2_with (at_builtin; refine print_append_row (w0 := w) w.heap.size rfl (.tmp 3) (.tmp 4) 41 5 .u8 1 rfl Tryd.underlying41 infoU8 (by decide) (.slice (some ⟨w.heap.size, 0, none⟩) 0 0) [] xs A xs.length c rfl rfl ?own ?reads ?below ?size ?len ?_; (case own => exact OB.empty w _ (Nat.le_refl _)); (case reads => exact Hr.out.below (below_alloc (Below.refl _ _) _)); (case below => exact below_alloc (Below.refl _ _) _); (case size => simp); (case len => simp; omega); intro v1 w1 hown hb1 hg hat; rw [List.nil_append] at hown; obtain ⟨A1, c1, rfl, hc1, hr1⟩ := OB.slice hown; have HO := Lib.hid hown; have HB := Lib.hid hb1; have HR := Lib.hid hr1; clear hown hb1 hr1 hg hat)
  go_ret
  exact ⟨w1.heap.size, rfl, HB.out.size, Rdr.new HR.out hc1 hb hs, below_alloc HB.out _⟩
theorem OB.set {w1 : World} {base : Nat} {v : Value} {l : List Int} (h : OB w1 base v l) {g : Nat} (hg : g < base) (i : Nat) (u : Value) : OB (w1.setCell ⟨g, i, none⟩ u) base v l :=
  own_setCell h (fun e => by have := own_base h g e.symm; omega) u
theorem err_calls (g : Nat) (xs : List Int) (br : Bool) (w : World) (h : Rdr w g xs br) :
    Calls Tryd.prog 41 #[.pointer (some ⟨g, 0, none⟩)] w fun e w' => e = .returned (.int .i64 (if br then 4 else 0)) ∧ Drawn0 w w' := by
  obtain ⟨A, c, hb, hc, hr, hne⟩ := h.cell
  have h1 := blk_cell hb 1
  have h2 := blk_cell hb 2
  simp only [List.getElem?_toArray, List.getElem?_cons_succ, List.getElem?_cons_zero] at h1 h2
  clear hb hc hr hne h
  cases br
  all_goals
    go_enter Tryd.func41, Tryd.ntmps41
    go_wp2
    go_ret
    exact ⟨rfl, by repeat (first | exact Drawn0.refl _ | apply Drawn0.step)⟩
end Go.Proofs.YtijjecnmdhefbaaDoor.BR

namespace Go.Proofs.YtijjecnmdhefbaaDoor.BS
open Go.RowKit Go.Proofs.YtijjecnmdhefbaaDoorW.PrintWords Go.Proofs.YtijjecnmdhefbaaDoorW.PrintLast Go.Proofs.YtijjecnmdhefbaaDoorW.PrintMore Go.Proofs.YtijjecnmdhefbaaDoor.CD
set_option linter.unusedVariables false
set_option linter.unusedSimpArgs false
theorem bytes_bytesOf (s : ByteArray) : Bytes (bytesOf s) := fun x hx => by
  unfold bytesOf at hx
  obtain ⟨b, _, rfl⟩ := List.mem_map.1 hx
  have := b.toNat_lt
  omega
theorem str_bytesOf (s : ByteArray) : strOfNums (bytesOf s) = s := by
  have h : ((bytesOf s).map fun n => UInt8.ofNat n.toNat) = s.data.toList := by
    unfold bytesOf
    rw [List.map_map]
    refine (List.map_congr_left (g := id) fun b _ => ?_).trans (List.map_id _)
    simp
  unfold strOfNums
  rw [h]
theorem bytesOf_str (l : List Int) (h : Bytes l) : bytesOf (strOfNums l) = l := by
  unfold bytesOf strOfNums
  rw [List.map_map]
  refine (List.map_congr_left (g := id) fun x hx => ?_).trans (List.map_id _)
  obtain ⟨h0, h1⟩ := h x hx
  simp only [Function.comp_apply, id]
  rw [UInt8.toNat_ofNat', Nat.mod_eq_of_lt (by omega)]
  omega
theorem str_inj {l m : List Int} (hl : Bytes l) (hm : Bytes m) (h : strOfNums l = strOfNums m) : l = m := by rw [← bytesOf_str l hl, h, bytesOf_str m hm]
theorem bytesOf_inj {s t : ByteArray} (h : bytesOf s = bytesOf t) : s = t := by rw [← str_bytesOf s, h, str_bytesOf t]
theorem loop_eq (s : ByteArray) : ∀ (d i : Nat) (r : List UInt8), d = s.size - i → ByteArray.toList.loop s i r = r.reverse ++ s.data.toList.drop i := by
  intro d
  induction d with
  | zero =>
    intro i r h
    unfold ByteArray.toList.loop
    have : ¬ i < s.size := by omega
    rw [if_neg this, List.drop_eq_nil_of_le (by rw [Array.length_toList]; show s.size ≤ i; omega)]
    simp
  | succ d ih =>
    intro i r h
    unfold ByteArray.toList.loop
    have hi : i < s.size := by omega
    rw [if_pos hi, ih (i + 1) _ (by omega)]
    have hi' : i < s.data.toList.length := by rw [Array.length_toList]; exact hi
    rw [List.drop_eq_getElem_cons hi']
    simp [ByteArray.get!, hi]
theorem toList_eq (s : ByteArray) : s.toList = s.data.toList := by
  have := loop_eq s s.size 0 [] rfl
  simpa [ByteArray.toList] using this
theorem toList_inj {s t : ByteArray} (h : s.toList = t.toList) : s = t := by
  rw [toList_eq, toList_eq] at h
  exact ByteArray.ext (Array.toList_inj.1 h)
theorem beq_same (s : ByteArray) : (s.toList == s.toList) = true := beq_self_eq_true _
theorem beq_of {s t : ByteArray} (h : s = t) : (s.toList == t.toList) = true := by rw [h]; exact beq_self_eq_true _
theorem beq_not {s t : ByteArray} (h : s ≠ t) : (s.toList == t.toList) = false := beq_eq_false_iff_ne.2 (fun e => h (toList_inj e))
theorem size_bytesOf (s : ByteArray) : (bytesOf s).length = s.size := bytesOf_length s
theorem size_str (l : List Int) : (strOfNums l).size = l.length := by
  show (strOfNums l).data.size = _
  simp [strOfNums]
theorem bytesOf_extract (s : ByteArray) (a b : Nat) : bytesOf (s.extract a b) = ((bytesOf s).take b).drop a := by
  unfold bytesOf
  rw [ByteArray.data_extract]
  simp [List.map_take, List.map_drop, List.drop_take, List.extract_eq_take_drop]
end Go.Proofs.YtijjecnmdhefbaaDoor.BS

namespace Go.Proofs.YtijjecnmdhefbaaDoor.BP
open Go.RowKit Go.Proofs.YtijjecnmdhefbaaDoorW.PrintWords Go.Proofs.YtijjecnmdhefbaaDoorW.PrintLast Go.Proofs.YtijjecnmdhefbaaDoorW.PrintMore Go.Proofs.YtijjecnmdhefbaaDoor.CD Go.Proofs.YtijjecnmdhefbaaDoor.BR
set_option linter.unusedVariables false
set_option linter.unusedSimpArgs false
theorem put_calls (A : Option Addr) (c : Nat) (l : List Int) (n : Nat) (w : World) (hr : ReadsInt w .u8 A l.length l) (hc : l.length ≤ c) (hn : n < 18446744073709551616) (hl : l.length < 140737488355000) :
    Calls Tryd.prog 18 #[.slice A l.length c, .int .u64 (n : Int)] w fun e w' => ∃ v, e = .returned v ∧ OB w' w.heap.size v (l ++ num n) ∧ Below w.heap.size w w' :=
  (PRegionKnown.bytes_Put.calls 12 A c l (n : Int) _ w (Kd.C_of_reads (d := (0 : Int)) (h1 := fun _ => rfl) hr) hc (CF.put_f n l hn hl)).mono fun e w' ⟨v, he, hR, hb⟩ => ⟨v, he, OB.of_R hR, hb⟩
theorem put_nil (n : Nat) (w : World) (hn : n < 18446744073709551616) :
    Calls Tryd.prog 18 #[.slice none 0 0, .int .u64 (n : Int)] w fun e w' => ∃ v, e = .returned v ∧ OB w' w.heap.size v (num n) ∧ Below w.heap.size w w' :=
  put_calls none 0 [] n w ⟨rfl, by decide, fun h => absurd h (by decide)⟩ (Nat.le_refl _) hn (by decide)
end Go.Proofs.YtijjecnmdhefbaaDoor.BP

namespace Go.Proofs.YtijjecnmdhefbaaDoor.BR
open Go.RowKit Go.Proofs.YtijjecnmdhefbaaDoorW.PrintWords Go.Proofs.YtijjecnmdhefbaaDoorW.PrintLast Go.Proofs.YtijjecnmdhefbaaDoorW.PrintMore
theorem OB.at_ {W : World} {base g c : Nat} {l : List Int} (h : OB W base (.slice (some ⟨g, 0, none⟩) l.length c) l) (j : Nat) (hj : j < l.length) : W.cell? ⟨g, j, none⟩ = some (.int .u8 (rd l j)) ∧ W.frozen? ⟨g, j, none⟩ = false := own_at h (j : Int) (by omega) (by omega)
theorem OB.store {W : World} {base g c : Nat} {l : List Int} (h : OB W base (.slice (some ⟨g, 0, none⟩) l.length c) l) (j : Nat) (x : Int) :
    OB (W.setCell ⟨g, j, none⟩ (.int .u8 x)) base (.slice (some ⟨g, 0, none⟩) (l.set j x).length c) (l.set j x) := by
  have := (own_store h (j : Int) x).1
  simp only [OB, List.length_set]
  exact this
theorem reads_grown {w W : World} {k : IntKind} {A : Option Addr} {n g : Nat} {xs : List Int} (h : ReadsInt w k A n xs) (hg : w.grownBy W (some g)) (hf : ∀ ad, A = some ad → 0 < n → ad.block ≠ g) : ReadsInt W k A n xs := by
  refine ⟨h.1, h.2.1, fun hn => ?_⟩
  obtain ⟨ad, rfl, hc⟩ := h.2.2 hn
  exact ⟨ad, rfl, fun j hj => hg.cell (hc j hj) (fun e => hf ad rfl hn (by injection e with e; rw [add_block] at e; exact e))⟩
theorem OB.grown {w W : World} {base : Nat} {v : Value} {l : List Int} {g : Nat} (h : OB w base v l) (hg : w.grownBy W (some g)) (hf : v.ownBlock ≠ some g) : OB W base v l := by
  refine ⟨h.1, ?_⟩
  rcases h.2 with h' | ⟨b, cap, cur, hv, hb, hh, hr⟩
  · exact .inl h'
  · refine .inr ⟨b, cap, cur, hv, hb, ?_, hr⟩
    have hlt := World.ownsRow.lt h b (by rw [hv]; rfl)
    rw [hg.block b hlt.2 (fun e => hf (by rw [hv]; exact e))]
    exact hh
end Go.Proofs.YtijjecnmdhefbaaDoor.BR

namespace Go.Proofs.YtijjecnmdhefbaaDoor.BR
open Go.ChangeShapes Go.WideShapes Go.Deep Go.RowKit Go.Proofs.YtijjecnmdhefbaaDoorW.PrintWords Go.Proofs.YtijjecnmdhefbaaDoorW.PrintLast Go.Proofs.YtijjecnmdhefbaaDoorW.PrintMore
set_option linter.unusedVariables false
set_option linter.unusedSimpArgs false
section
variable {H : Type} {enc : TypeId × Value → H} {P : Program} {w : World} {base : Nat} {spare : Nat → Bool} {held : Bool}
end
theorem at_field (a : Addr) (i k : Nat) (hk : 0 < k) : a.add (i + k) = ⟨(a.add i).block, (a.add i).off + k, none⟩ := by
  unfold Addr.add
  rw [if_neg (by omega)]
  split
  · subst_vars; simp
  · simp [Nat.add_assoc]
def Pairs (w : World) (A : Option Addr) (n : Nat) (xs : List (Int × Int)) : Prop :=
  xs.length = n ∧ (0 < n → ∃ ad, A = some ad ∧ ∀ j, j < n → w.cell? (ad.add (j * 2)) = some (.int .i64 (xs.getD j (0, 0)).1) ∧ w.cell? (ad.add (j * 2 + 1)) = some (.int .i64 (xs.getD j (0, 0)).2)) ∧
    ∀ j, j < n → ((-9223372036854775808 ≤ (xs.getD j (0, 0)).1 ∧ (xs.getD j (0, 0)).1 ≤ 9223372036854775807) ∧ -9223372036854775808 ≤ (xs.getD j (0, 0)).2 ∧ (xs.getD j (0, 0)).2 ≤ 9223372036854775807)
theorem Pairs.below {w w1 : World} {A : Option Addr} {n : Nat} {xs : List (Int × Int)} (h : Pairs w A n xs) (hb : Below w.heap.size w w1) : Pairs w1 A n xs :=
  ⟨h.1, fun hn => by
    obtain ⟨ad, e, hc⟩ := h.2.1 hn
    exact ⟨ad, e, fun j hj => ⟨pw_cell_below hb (hc j hj).1, pw_cell_below hb (hc j hj).2⟩⟩, h.2.2⟩
end Go.Proofs.YtijjecnmdhefbaaDoor.BR

namespace Go.Proofs.YtijjecnmdhefbaaDoor.RG
open Go.ChangeShapes Go.WideShapes Go.Deep Go.RowKit Go.Proofs.YtijjecnmdhefbaaDoorW.PrintWords Go.Proofs.YtijjecnmdhefbaaDoorW.PrintLast Go.Proofs.YtijjecnmdhefbaaDoorW.PrintMore Go.Proofs.YtijjecnmdhefbaaDoor.CD Go.Proofs.YtijjecnmdhefbaaDoor.BR Go.Proofs.YtijjecnmdhefbaaDoor.BP
set_option linter.unusedVariables false
set_option linter.unusedSimpArgs false
abbrev Ent := Int × Int × Int × Int
def E0 : Ent := (0, 0, 0, 0)
def eMay (x : Ent) : Bool := decide ((0 ≤ x.1 ∧ x.1 ≤ 1023) ∧ (1 ≤ x.2.1 ∧ x.2.1 ≤ 131071) ∧ (1 ≤ x.2.2.1 ∧ x.2.2.1 ≤ 65536) ∧ 0 ≤ x.2.2.2 ∧ x.2.2.2 ≤ 2199023255552)
def eNums (was : Int) (x : Ent) : List Nat := [(x.1 - was - 1).toNat, x.2.1.toNat, x.2.2.1.toNat, x.2.2.2.toNat]
def nums4 (l : List Nat) : List Int := l.flatMap num
def dirF : Int → List Ent → Except Int (List Int)
  | _, [] => .ok []
  | was, x :: l => if eMay x = false then .error 2 else if x.1 ≤ was then .error 6 else (dirF x.1 l).map (nums4 (eNums was x) ++ ·)
def dir (l : List Ent) : Except Int (List Int) := (dirF (-1) l).map (num l.length ++ ·)
def glue (b : List Int) (d : Except Int (List Int)) : Except Int (List Int) := d.map (b ++ ·)
theorem glue_glue (a b : List Int) (d : Except Int (List Int)) : glue a (glue b d) = glue (a ++ b) d := by
  cases d <;> simp [glue, Except.map]
theorem dirF_step (was : Int) (x : Ent) (l : List Ent) (h1 : eMay x = true) (h2 : ¬ x.1 ≤ was) : dirF was (x :: l) = glue (nums4 (eNums was x)) (dirF x.1 l) := by
  simp only [dirF]
  rw [h1, if_neg (by simp), if_neg h2]; rfl
theorem nums4_le (l : List Nat) : (nums4 l).length ≤ 10 * l.length := by
  induction l with
  | nil => simp [nums4]
  | cons n l ih => unfold nums4 at ih ⊢; rw [List.flatMap_cons, List.length_append, List.length_cons]; have := num_le n; omega
theorem entry_f (x : Ent) : PRegionKnown.region_entry.f x.1 x.2.1 x.2.2.1 x.2.2.2 = some (eMay x) := by
  obtain ⟨a, b, c, d⟩ := x
  unfold PRegionKnown.region_entry.f PRegionKnown.region_within.f eMay
  by_cases h1 : 0 ≤ a
  · by_cases h2 : a ≤ 1023
    · by_cases h3 : 1 ≤ b
      · by_cases h4 : b ≤ 131071
        · by_cases h5 : 1 ≤ c
          · by_cases h6 : c ≤ 65536
            · by_cases h7 : 0 ≤ d <;> simp [h1, h2, h3, h4, h5, h6, h7]
            · simp [h1, h2, h3, h4, h5, h6]
          · simp [h1, h2, h3, h4, h5]
        · simp [h1, h2, h3, h4]
      · simp [h1, h2, h3]
    · simp [h1, h2]
  · simp [h1]
theorem entry_calls (x : Ent) (w : World) : Calls Tryd.prog 39 #[.agg #[.int .i64 x.1, .int .i64 x.2.1, .int .i64 x.2.2.1, .int .i64 x.2.2.2]] w fun e w' => e = .returned (.bool (eMay x)) ∧ Below w.heap.size w w' :=
  PRegionKnown.region_entry.calls x.1 x.2.1 x.2.2.1 x.2.2.2 _ w (entry_f x)
theorem put_z (A : Option Addr) (c : Nat) (l : List Int) (z : Int) (w : World) (hr : ReadsInt w .u8 A l.length l) (hc : l.length ≤ c) (hz : 0 ≤ z ∧ z < 18446744073709551616) (hl : l.length < 140737488355000) :
    Calls Tryd.prog 18 #[.slice A l.length c, .int .u64 z] w fun e w' => ∃ v, e = .returned v ∧ OB w' w.heap.size v (l ++ num z.toNat) ∧ Below w.heap.size w w' := by
  have h := put_calls A c l z.toNat w hr hc (by omega) hl
  rw [Int.toNat_of_nonneg hz.1] at h
  exact h
theorem take4_0 (was : Int) (x : Ent) : nums4 ((eNums was x).take 0) ++ num (x.1 - was - 1).toNat = nums4 ((eNums was x).take 1) := by simp [nums4, eNums]
theorem take4_1 (was : Int) (x : Ent) : nums4 ((eNums was x).take 1) ++ num x.2.1.toNat = nums4 ((eNums was x).take 2) := by simp [nums4, eNums]
theorem take4_2 (was : Int) (x : Ent) : nums4 ((eNums was x).take 2) ++ num x.2.2.1.toNat = nums4 ((eNums was x).take 3) := by simp [nums4, eNums]
theorem take4_3 (was : Int) (x : Ent) : nums4 ((eNums was x).take 3) ++ num x.2.2.2.toNat = nums4 ((eNums was x).take 4) := by simp [nums4, eNums]
set_option maxRecDepth 100000 in
theorem ix0 (a b c d : Int) (W : World) : (Instr.index 86 (.agg #[.int .u64 a, .int .u64 b, .int .u64 c, .int .u64 d]) (.int .i64 0)).run Tryd.prog W = .ok (.int .u64 a) W := rfl
set_option maxRecDepth 100000 in
theorem ix1 (a b c d : Int) (W : World) : (Instr.index 86 (.agg #[.int .u64 a, .int .u64 b, .int .u64 c, .int .u64 d]) (.int .i64 1)).run Tryd.prog W = .ok (.int .u64 b) W := rfl
set_option maxRecDepth 100000 in
theorem ix2 (a b c d : Int) (W : World) : (Instr.index 86 (.agg #[.int .u64 a, .int .u64 b, .int .u64 c, .int .u64 d]) (.int .i64 2)).run Tryd.prog W = .ok (.int .u64 c) W := rfl
set_option maxRecDepth 100000 in
theorem ix3 (a b c d : Int) (W : World) : (Instr.index 86 (.agg #[.int .u64 a, .int .u64 b, .int .u64 c, .int .u64 d]) (.int .i64 3)).run Tryd.prog W = .ok (.int .u64 d) W := rfl
def Ents (w : World) (A : Option Addr) (n : Nat) (xs : List Ent) : Prop :=
  xs.length = n ∧ (∀ j, j < n → ∃ ad, A = some ad ∧ w.cell? (ad.add (j * 4)) = some (.int .i64 (xs.getD j E0).1) ∧ w.cell? ⟨(ad.add (j * 4)).block, (ad.add (j * 4)).off + 1, none⟩ = some (.int .i64 (xs.getD j E0).2.1) ∧ w.cell? ⟨(ad.add (j * 4)).block, (ad.add (j * 4)).off + 2, none⟩ = some (.int .i64 (xs.getD j E0).2.2.1) ∧ w.cell? ⟨(ad.add (j * 4)).block, (ad.add (j * 4)).off + 3, none⟩ = some (.int .i64 (xs.getD j E0).2.2.2))
theorem Ents.below {w w1 : World} {A : Option Addr} {n : Nat} {xs : List Ent} (h : Ents w A n xs) (hb : Below w.heap.size w w1) : Ents w1 A n xs :=
  ⟨h.1, fun j hj => by
    obtain ⟨ad, e, h0, h1, h2, h3⟩ := h.2 j hj
    exact ⟨ad, e, pw_cell_below hb h0, pw_cell_below hb h1, pw_cell_below hb h2, pw_cell_below hb h3⟩⟩
theorem OB.base' {w : World} {b b' : Nat} {v : Value} {l : List Int} (h : OB w b v l) (hb : b' ≤ b) : OB w b' v l := by
  refine ⟨h.1, ?_⟩
  rcases h.2 with h' | ⟨g, cap, cur, hv, hg, hh, hr⟩
  · exact .inl h'
  · exact .inr ⟨g, cap, cur, hv, Nat.le_trans hb hg, hh, hr⟩
def Told (d : Except Int (List Int)) (w : World) (e : Ending) (w' : World) : Prop :=
  (match d with
    | .ok b => ∃ v, e = .returned (.tuple #[v, .int .i64 0]) ∧ OB w' w.heap.size v b
    | .error k => e = .returned (.tuple #[.slice none 0 0, .int .i64 k])) ∧ Below w.heap.size w w'
set_option maxHeartbeats 1000000 in
set_option maxRecDepth 100000 in
theorem put_region (A : Option Addr) (n c : Nat) (xs : List Ent) (w : World) (hn : n ≤ c) (hm : n ≤ 100000000) (hp : Ents w A n xs) :
    Calls Tryd.prog 13 #[.slice A n c] w fun e w' => Told (dir xs) w e w' := by
  have HP := Lib.hid hp
  have hq := hp.1
  obtain ⟨D, hD⟩ : ∃ D, D = dir xs := ⟨_, rfl⟩
  rw [← hD]
  have HD := Lib.hid (show D = glue (num n) (dirF (-1) (xs.drop 0)) by rw [hD]; unfold dir; rw [hq]; rfl)
  clear hp hD
  go_enter Tryd.func13, Tryd.ntmps13
  go_wp2_with fail
  refine (put_nil n _ (by omega)).mono ?_; rintro e w1 ⟨v1, rfl, ho1, hb1⟩; have HB1 := Lib.hid hb1; have HO1 := Lib.hid ho1; clear hb1 ho1
  go_wp2_with fail
  go_loopw [4, 5, 16] (fun bv wv iv W => ∃ (j : Nat) (was : Int) (L : List Int), j ≤ n ∧ iv = .int .i64 (j : Int) ∧ wv = .int .i64 was ∧ (-1 ≤ was ∧ was ≤ 1023) ∧ L.length ≤ 10 + 40 * j ∧ Aside0 (OB W w.heap.size bv L) ∧ Aside0 (D = glue L (dirF was (xs.drop j))) ∧ Aside0 (Below w.heap.size w W)) (fun _ _ iv _ => n - (intOf iv).toNat)
  case atStart => exact ⟨0, -1, num n, by omega, rfl, rfl, by omega, by have := num_le n; omega, ⟨HO1.out⟩, ⟨HD.out⟩, ⟨HB1.out⟩⟩
  case round =>
    obtain ⟨j, was, L, hj, rfl, rfl, hw, hLl, ⟨ho⟩, ⟨hd⟩, ⟨hb⟩⟩ := hrel
    have HBj := Lib.hid hb
    have HDj := Lib.hid hd
    obtain ⟨A5, c5, rfl, hc5, hr5⟩ := ho.slice
    have HO := Lib.hid ho
    have HR5 := Lib.hid hr5
    have HC5 := Lib.hid hc5
    clear hr5 hc5 ho hb hd
    by_cases hlt : j < n
    · obtain ⟨ad, rfl, z0, z1, z2, z3⟩ := (HP.out.below HBj.out).2 j hlt
      have HS := Lib.hid (show xs.drop j = xs.getD j E0 :: xs.drop (j + 1) by rw [List.drop_eq_getElem_cons (by omega), List.getD_eq_getElem?_getD, List.getElem?_eq_getElem (by omega)]; rfl)
      obtain ⟨x, hx⟩ : ∃ x, x = xs.getD j E0 := ⟨_, rfl⟩
      rw [← hx] at HS z0 z1 z2 z3
      clear hx
      go_wp2_with fail
      refine (entry_calls x _).mono ?_; rintro e w3 ⟨rfl, hb3⟩
      have HB3 := Lib.hid (below_step (below_alloc HBj.out _) hb3)
      have HB30 := Lib.hid (below_step (below_alloc (Below.refl wr.heap.size wr) _) hb3)
      have Hbx := blk_below (blk_new wr (.cells #[.int .i64 x.1, .int .i64 x.2.1, .int .i64 x.2.2.1, .int .i64 x.2.2.2] 50)) hb3
      have y0 := blk_cell Hbx 0
      have y1 := blk_cell Hbx 1
      have y2 := blk_cell Hbx 2
      have y3 := blk_cell Hbx 3
      simp only [List.getElem?_toArray, List.getElem?_cons_succ, List.getElem?_cons_zero] at y0 y1 y2 y3
      clear hb3 Hbx
      cases he : eMay x with
      | false =>
        have hfin : Hid (D = .error 2) := Lib.hid (by rw [HDj.out, HS.out]; simp [dirF, he, glue, Except.map])
        clear he
        go_wp2
        go_ret2
        rw [hfin.out]
        exact ⟨rfl, HB3.out⟩
      | true =>
        have hx := he
        unfold eMay at hx
        have hx := of_decide_eq_true hx
        by_cases hle : x.1 ≤ was
        · have hfin : Hid (D = .error 6) := Lib.hid (by rw [HDj.out, HS.out]; simp only [dirF]; rw [he, if_neg (by simp), if_pos hle]; rfl)
          clear he
          go_wp2
          go_ret2
          rw [hfin.out]
          exact ⟨rfl, HB3.out⟩
        · have hnext : Hid (D = glue (L ++ nums4 (eNums was x)) (dirF x.1 (xs.drop (j + 1)))) := Lib.hid (by rw [HDj.out, HS.out, dirF_step was x _ he hle, glue_glue])
          clear he
          have HY0 := Lib.hid y0
          have r0 : 0 ≤ x.1 - was - 1 ∧ x.1 - was - 1 < 18446744073709551616 := by omega
          have r1 : 0 ≤ x.2.1 ∧ x.2.1 < 18446744073709551616 := by omega
          have r2 : 0 ≤ x.2.2.1 ∧ x.2.2.1 < 18446744073709551616 := by omega
          have r3 : 0 ≤ x.2.2.2 ∧ x.2.2.2 < 18446744073709551616 := by omega
          have hw' : -1 ≤ x.1 ∧ x.1 ≤ 1023 := by omega
          go_wp2_with fail
          go_loopw [4, 43] (fun bv iv W => ∃ t : Nat, t ≤ 4 ∧ iv = .int .i64 (t : Int) ∧ Aside0 (OB W w.heap.size bv (L ++ nums4 ((eNums was x).take t))) ∧ Aside0 (Below w3.heap.size w3 W)) (fun _ iv _ => 4 - (intOf iv).toNat)
          case atStart => exact ⟨0, by omega, rfl, ⟨by rw [show L ++ nums4 ((eNums was x).take 0) = L by simp [nums4]]; exact OB.base' ((HO.out.below HB30.out)) (Nat.le_refl _)⟩, ⟨Below.refl _ _⟩⟩
          case round =>
            obtain ⟨t, ht, rfl, ⟨ho⟩, ⟨hb⟩⟩ := hrel
            have HBt := Lib.hid (below_step HB3.out hb)
            have HBt3 := Lib.hid hb
            have hLt : (L ++ nums4 ((eNums was x).take t)).length ≤ 10 + 40 * j + 40 := by
              have := nums4_le ((eNums was x).take t); rw [List.length_take] at this; rw [List.length_append]; have h4 : (eNums was x).length = 4 := rfl; omega
            by_cases h4 : t < 4
            · obtain ⟨M, hM⟩ : ∃ M, M = L ++ nums4 ((eNums was x).take t) := ⟨_, rfl⟩
              rw [← hM] at ho hLt
              obtain ⟨A6, c6, rfl, hc6, hr6⟩ := ho.slice
              have HC6 := Lib.hid hc6
              have HR6 := Lib.hid hr6
              have HM := Lib.hid hM
              clear ho hb hc6 hr6 hM
              rcases (by omega : t = 0 ∨ t = 1 ∨ t = 2 ∨ t = 3) with rfl | rfl | rfl | rfl
              all_goals (
                have k0 := ix0 (x.1 - was - 1) x.2.1 x.2.2.1 x.2.2.2
                have k1 := ix1 (x.1 - was - 1) x.2.1 x.2.2.1 x.2.2.2
                have k2 := ix2 (x.1 - was - 1) x.2.1 x.2.2.1 x.2.2.2
                have k3 := ix3 (x.1 - was - 1) x.2.1 x.2.2.1 x.2.2.2
                go_wp2_with fail
                refine (put_z A6 c6 M _ _ HR6.out HC6.out (by assumption) (by omega)).mono ?_; rintro e w6 ⟨v6, rfl, ho6, hb6⟩
                have HO6 := Lib.hid (OB.base' ho6 HBt.out.size)
                have HB6 := Lib.hid (below_step HBt3.out hb6)
                clear ho6 hb6
                go_wp2
                go_roundw
                case rel => first | exact ⟨1, by omega, rfl, ⟨by have h := HO6.out; rw [HM.out, List.append_assoc, take4_0] at h; exact h⟩, ⟨HB6.out⟩⟩ | exact ⟨2, by omega, rfl, ⟨by have h := HO6.out; rw [HM.out, List.append_assoc, take4_1] at h; exact h⟩, ⟨HB6.out⟩⟩ | exact ⟨3, by omega, rfl, ⟨by have h := HO6.out; rw [HM.out, List.append_assoc, take4_2] at h; exact h⟩, ⟨HB6.out⟩⟩ | exact ⟨4, by omega, rfl, ⟨by have h := HO6.out; rw [HM.out, List.append_assoc, take4_3] at h; exact h⟩, ⟨HB6.out⟩⟩
                case measure => simp [intOf])
            · have ht4 : t = 4 := by omega
              subst t
              have HO4 := Lib.hid ho
              have y0' := pw_cell_below hb HY0.out
              clear ho hb
              go_wp2
              go_roundw
              case rel => exact ⟨j + 1, x.1, _, by omega, by go_num, rfl, hw', by omega, ⟨HO4.out⟩, ⟨hnext.out⟩, ⟨HBt.out⟩⟩
              case measure => simp [intOf]; omega
    · have hjn : j = n := by omega
      subst j
      have hfin : D = .ok L := by rw [HDj.out, List.drop_of_length_le (by omega)]; simp [dirF, glue, Except.map]
      go_wp2
      go_ret2
      rw [hfin]
      exact ⟨⟨_, rfl, HO.out⟩, HBj.out⟩
end Go.Proofs.YtijjecnmdhefbaaDoor.RG

namespace Go.Proofs.YtijjecnmdhefbaaDoor.BR
open Go.RowKit Go.Proofs.YtijjecnmdhefbaaDoorW.PrintWords Go.Proofs.YtijjecnmdhefbaaDoorW.PrintLast Go.Proofs.YtijjecnmdhefbaaDoorW.PrintMore Go.Proofs.YtijjecnmdhefbaaDoor.CD
set_option linter.unusedVariables false
set_option linter.unusedSimpArgs false
theorem xor0 (a : Nat) (ha : a < 9223372036854775808) : bits .xor .i64 (a : Int) 0 = (a : Int) := by
  have ha' : a % 2 ^ IntKind.i64.bits = a := Nat.mod_eq_of_lt (by simp only [IntKind.bits]; omega)
  simp only [bits, BitVec.ofInt_natCast, show BitVec.ofInt IntKind.i64.bits 0 = 0#_ from rfl, BitVec.xor_zero, BitVec.toNat_ofNat, ha']
  rw [IntKind.wrap_i64]; omega
theorem xor1 (a : Nat) (ha : a < 9223372036854775808) : bits .xor .i64 (a : Int) (-1) = -(a : Int) - 1 := by
  have ha' : a % 2 ^ 64 = a := Nat.mod_eq_of_lt (by omega)
  have h1 : BitVec.ofInt 64 (-1) = BitVec.allOnes 64 := by decide
  show IntKind.i64.wrap ((BitVec.ofInt 64 (a : Int) ^^^ BitVec.ofInt 64 (-1)).toNat : Int) = _
  rw [h1, BitVec.ofInt_natCast, BitVec.xor_allOnes, BitVec.toNat_not, BitVec.toNat_ofNat, ha', IntKind.wrap_i64]
  omega
theorem and1 (n : Nat) (hn : n < 18446744073709551616) : bits .and .u64 (n : Int) 1 = ((n % 2 : Nat) : Int) := by
  have := bits_mask .u64 64 (by decide) (fun n a b => by simp [IntKind.wrap, IntKind.bits, IntKind.signed]; omega) 1 (by decide) (n : Int) (by omega) (by omega)
  rw [show (2 : Int) ^ 1 - 1 = 1 by decide, show (2 : Int) ^ 1 = 2 by decide] at this
  rw [this]; omega
theorem xor_zag (n : Nat) (hn : n < 18446744073709551616) : bits .xor .i64 (wrap64 ((n : Int) / 2)) (wrap64 (-(wrap64 (bits .and .u64 (n : Int) 1)))) = zag n := by
  have e : wrap64 ((n : Int) / 2) = ((n / 2 : Nat) : Int) := by unfold wrap64; omega
  rw [and1 n hn, e]
  unfold zag
  by_cases h : n % 2 = 0
  · rw [if_pos h, h, show wrap64 (-(wrap64 ((0 : Nat) : Int))) = 0 by decide +kernel]
    exact xor0 _ (by omega)
  · rw [if_neg h, show n % 2 = 1 by omega, show wrap64 (-(wrap64 ((1 : Nat) : Int))) = -1 by decide +kernel]
    exact xor1 _ (by omega)
theorem rNum_lt (s : St) (h : Bytes s.1) : (rNum s).1 < 18446744073709551616 := by
  unfold rNum
  split
  · simp
  · split
    · simp
    · rename_i hk
      exact (dec_back s.1 h _ _ rfl hk).1
def rInt (s : St) : Int × St := if s.2 then (0, s) else (zag (rNum s).1, (rNum s).2)
theorem turned_calls (g : Nat) (xs : List Int) (br : Bool) (w : World) (h : Rdr w g xs br) :
    Calls Tryd.prog 57 #[.pointer (some ⟨g, 0, none⟩), .func (.func 32) #[.pointer (some ⟨g, 0, none⟩)] #[]] w fun e w' => e = .returned (.int .i64 (zag (rNum (xs, br)).1)) ∧ Rdr w' g (rNum (xs, br)).2.1 (rNum (xs, br)).2.2 ∧ w.grownBy w' (some g) := by
  have H := Lib.hid h
  clear h
  obtain ⟨q, hq⟩ : ∃ q, q = rNum (xs, br) := ⟨_, rfl⟩
  have HN0 := num_calls g xs br w H.out
  rw [← hq] at HN0 ⊢
  have HN := Lib.hid HN0
  have hql : q.1 < 18446744073709551616 := by rw [hq]; exact rNum_lt _ H.out.bytes
  have Hql := Lib.hid hql
  clear hq HN0 hql
  go_enter Tryd.func57, Tryd.ntmps57
  go_wp2_with (refine HN.out.mono ?_; rintro e w' ⟨rfl, hr, hg⟩)
  go_ret
  exact ⟨by rw [← xor_zag _ Hql.out]; rfl, hr, hg⟩
theorem int_calls (g : Nat) (xs : List Int) (br : Bool) (w : World) (h : Rdr w g xs br) :
    Calls Tryd.prog 33 #[.pointer (some ⟨g, 0, none⟩)] w fun e w' => e = .returned (.int .i64 (rInt (xs, br)).1) ∧ Rdr w' g (rInt (xs, br)).2.1 (rInt (xs, br)).2.2 ∧ w.grownBy w' (some g) := by
  have H := Lib.hid h
  clear h
  cases br with
  | true =>
    unfold rInt
    go_enter Tryd.func33, Tryd.ntmps33
    go_wp2_with (go_at_call 55; refine (fine_calls g xs true _ H.out).mono ?_; rintro e w' ⟨rfl, ⟨nd, rfl⟩⟩)
    go_ret
    exact ⟨rfl, H.out.drewN _, gdrewN (World.grownBy.refl _ _) _⟩
  | false =>
    have e : rInt (xs, false) = (zag (rNum (xs, false)).1, (rNum (xs, false)).2) := rfl
    rw [e]
    obtain ⟨q, hq⟩ : ∃ q, q = rNum (xs, false) := ⟨_, rfl⟩
    have HT0 := fun w' (h' : Rdr w' g xs false) => turned_calls g xs false w' h'
    rw [← hq] at HT0 ⊢
    have HT := Lib.hid HT0
    clear hq HT0 e
    go_enter Tryd.func33, Tryd.ntmps33
    go_wp2_with (first | (go_at_call 55; refine (fine_calls g xs false _ H.out).mono ?_; rintro e w' ⟨rfl, ⟨nd, rfl⟩⟩) | (go_at_call 57; refine (HT.out _ (H.out.drewN _)).mono ?_; rintro e w' ⟨rfl, hr, hg⟩))
    go_ret
    exact ⟨rfl, hr, gtrans (gdrewN (World.grownBy.refl _ _) _) hg⟩
end Go.Proofs.YtijjecnmdhefbaaDoor.BR

namespace Go.Proofs.YtijjecnmdhefbaaDoor.BQ
open Go.RowKit Go.Proofs.YtijjecnmdhefbaaDoorW.PrintWords Go.Proofs.YtijjecnmdhefbaaDoorW.PrintLast Go.Proofs.YtijjecnmdhefbaaDoorW.PrintMore Go.Proofs.YtijjecnmdhefbaaDoor.CD Go.Proofs.YtijjecnmdhefbaaDoor.BR
set_option linter.unusedVariables false
set_option linter.unusedSimpArgs false
variable {p : Nat → Prop}

structure Rdr (p : Nat → Prop) (w : World) (g : Nat) (xs : List Int) (br : Bool) : Prop where
  cell : ∃ (A : Option Addr) (c : Nat), w.heap[g]? = some (.cells #[.slice A xs.length c, .bool true, .bool br] 106 (0, 0)) ∧ xs.length ≤ c ∧ ReadsInt w .u8 A xs.length xs ∧ (∀ ad, A = some ad → 0 < xs.length → ad.block ≠ g)
  small : xs.length ≤ 140737488355328
  bytes : Bytes xs
  dat : ∀ (A : Option Addr) (c : Nat), w.heap[g]? = some (.cells #[.slice A xs.length c, .bool true, .bool br] 106 (0, 0)) → ∀ ad, A = some ad → 0 < xs.length → p ad.block
theorem Rdr.lt {w : World} {g : Nat} {xs : List Int} {br : Bool} (h : Rdr p w g xs br) : g < w.heap.size := by
  obtain ⟨A, c, hb, _⟩ := h.cell
  exact blk_lt hb
theorem Rdr.kept {w w' : World} {g : Nat} {xs : List Int} {br : Bool} (h : Rdr p w g xs br) {row : Option Nat} (hg : w.grownBy w' row) (hne : some g ≠ row) (hdata : ∀ ad : Addr, some ad.block = row → ∀ A c, w.heap[g]? = some (.cells #[.slice A xs.length c, .bool true, .bool br] 106 (0, 0)) → 0 < xs.length → A ≠ some ad) : Rdr p w' g xs br := by
  obtain ⟨A, c, hb, hc, hr, hn⟩ := h.cell
  refine ⟨⟨A, c, (hg.block g (blk_lt hb) hne).trans hb, hc, reads_kept hr fun ad e h0 hl => hg.block _ hl (fun e2 => hdata ad e2 A c hb h0 e), hn⟩, h.small, h.bytes, fun A' c' hb' => h.dat A' c' ((hg.block g (blk_lt hb) hne).symm.trans hb')⟩
theorem Rdr.far {w w' : World} {g : Nat} {xs : List Int} {br : Bool} (h : Rdr p w g xs br) {row : Option Nat} (hg : w.grownBy w' row) (hne : some g ≠ row) (hp : ∀ k, row = some k → ¬ p k) : Rdr p w' g xs br := by
  refine h.kept hg hne fun ad e A c hb h0 hA => hp ad.block e.symm (h.dat A c hb ad hA h0)
theorem Rdr.below {w w' : World} {g : Nat} {xs : List Int} {br : Bool} (h : Rdr p w g xs br) (hb : Below w.heap.size w w') : Rdr p w' g xs br :=
  h.kept (gofBelow (row := none) hb) (by simp) (fun ad e => by cases e)
theorem Rdr.drewN {w : World} {g : Nat} {xs : List Int} {br : Bool} (h : Rdr p w g xs br) (n : Nat) : Rdr p (w.drewN n) g xs br := h.below (pw_below_drewN (Below.refl _ _) n)
theorem Rdr.breaks {w : World} {g : Nat} {xs : List Int} {br : Bool} (h : Rdr p w g xs br) : Rdr p (w.setCell ⟨g, 2, none⟩ (.bool true)) g xs true := by
  obtain ⟨A, c, hb, hc, hr, hn⟩ := h.cell
  refine ⟨⟨A, c, by rw [blk_set hb]; rfl, hc, reads_kept hr fun ad e h0 hl => Below.heap_setCell w _ _ _ (hn ad e h0), hn⟩, h.small, h.bytes, fun A' c' hb' => by
    have e1 : (w.setCell ⟨g, 2, none⟩ (.bool true)).heap[g]? = some (.cells #[.slice A xs.length c, .bool true, .bool true] 106 (0, 0)) := by rw [blk_set hb]; rfl
    rw [e1] at hb'
    simp only [Option.some.injEq, Obj.cells.injEq, Array.mk.injEq, List.cons.injEq, Value.slice.injEq, and_true, true_and] at hb'
    obtain ⟨rfl, rfl⟩ := hb'
    exact h.dat A c hb⟩
theorem Rdr.moves {w : World} {g : Nat} {xs : List Int} {br : Bool} (h : Rdr p w g xs br) {A : Option Addr} {c : Nat} (hb : w.heap[g]? = some (.cells #[.slice A xs.length c, .bool true, .bool br] 106 (0, 0))) {m : Nat} (hm : m ≤ xs.length) {A' : Option Addr}
    (hr : ∀ w, ReadsInt w .u8 A xs.length xs → ReadsInt w .u8 A' (xs.drop m).length (xs.drop m)) (ha : ∀ ad', A' = some ad' → ∃ ad, A = some ad ∧ ad.block = ad'.block) :
    Rdr p (w.setCell ⟨g, 0, none⟩ (.slice A' (xs.length - m) (c - m))) g (xs.drop m) br := by
  obtain ⟨A2, c2, hb2, hc, hrd, hn⟩ := h.cell
  rw [hb2] at hb
  simp only [Option.some.injEq, Obj.cells.injEq, Array.mk.injEq, List.cons.injEq, Value.slice.injEq, and_true, true_and] at hb
  obtain ⟨rfl, rfl⟩ := hb
  have hl : (xs.drop m).length = xs.length - m := List.length_drop
  have hne : ∀ ad', A' = some ad' → 0 < (xs.drop m).length → ad'.block ≠ g := fun ad' e h0 => by
    obtain ⟨ad, e1, e2⟩ := ha ad' e
    rw [← e2]
    exact hn ad e1 (by omega)
  refine ⟨⟨A', c2 - m, by rw [blk_set hb2, hl]; rfl, by omega, reads_kept (hr w hrd) fun ad e h0 hlt => Below.heap_setCell w _ _ _ (hne ad e h0), hne⟩, by have := h.small; omega, h.bytes.drop m, fun A9 c9 hb9 ad9 e9 h9 => by
    have e1 : (w.setCell ⟨g, 0, none⟩ (.slice A' (xs.length - m) (c2 - m))).heap[g]? = some (.cells #[.slice A' (xs.drop m).length (c2 - m), .bool true, .bool br] 106 (0, 0)) := by rw [blk_set hb2, hl]; rfl
    rw [e1] at hb9
    simp only [Option.some.injEq, Obj.cells.injEq, Array.mk.injEq, List.cons.injEq, Value.slice.injEq, and_true, true_and] at hb9
    obtain ⟨rfl, rfl⟩ := hb9
    obtain ⟨ad, e1, e2⟩ := ha ad9 e9
    rw [← e2]
    exact h.dat A2 c2 hb2 ad e1 (by omega)⟩

theorem fine_calls (g : Nat) (xs : List Int) (br : Bool) (w : World) (h : Rdr p w g xs br) :
    Calls Tryd.prog 55 #[.pointer (some ⟨g, 0, none⟩)] w fun e w' => e = .returned (.bool (!br)) ∧ Drawn0 w w' := by
  obtain ⟨A, c, hb, hc, hr, hne⟩ := h.cell
  have h1 := blk_cell hb 1
  have h2 := blk_cell hb 2
  simp only [List.getElem?_toArray, List.getElem?_cons_succ, List.getElem?_cons_zero] at h1 h2
  clear hb hc hr hne h
  go_enter Tryd.func55, Tryd.ntmps55
  go_wp2
  go_ret
  exact ⟨rfl, by repeat (first | exact Drawn0.refl _ | apply Drawn0.step)⟩
theorem num_broken (g : Nat) (xs : List Int) (w : World) (h : Rdr p w g xs true) :
    Calls Tryd.prog 32 #[.pointer (some ⟨g, 0, none⟩)] w fun e w' => e = .returned (.int .u64 0) ∧ Rdr p w' g xs true ∧ w.grownBy w' (some g) := by
  have H := Lib.hid h
  clear h
  go_enter Tryd.func32, Tryd.ntmps32
  go_wp2_with (go_at_call 55; refine (fine_calls g xs true _ H.out).mono ?_; rintro e w' ⟨rfl, ⟨nd, rfl⟩⟩)
  go_ret
  exact ⟨rfl, H.out.drewN _, gdrewN (World.grownBy.refl _ _) _⟩
theorem num_no (g : Nat) (xs : List Int) (w : World) (h : Rdr p w g xs false) (hk : (dec xs).2 = 0) :
    Calls Tryd.prog 32 #[.pointer (some ⟨g, 0, none⟩)] w fun e w' => e = .returned (.int .u64 0) ∧ Rdr p w' g xs true ∧ w.grownBy w' (some g) := by
  have H := Lib.hid h
  obtain ⟨A, c, hb, hc, hr, hne⟩ := h.cell
  have h0 := blk_cell hb 0
  have h2 := blk_cell hb 2
  have f2 := blk_frozen hb 2
  simp only [List.getElem?_toArray, List.getElem?_cons_succ, List.getElem?_cons_zero] at h0 h2
  have HN0 := fun w' (hd : ReadsInt w' .u8 A xs.length xs) => number_calls A c xs w' hd hc h.bytes h.small
  rw [hk] at HN0
  have HN := Lib.hid HN0
  have Hr := Lib.hid hr
  clear hb hc hr hne h hk HN0
  go_enter Tryd.func32, Tryd.ntmps32
  go_wp2_with (first | (go_at_call 55; refine (fine_calls g xs false _ H.out).mono ?_; rintro e w' ⟨rfl, ⟨nd, rfl⟩⟩) | (go_at_call 56; refine (HN.out _ (Hr.out.below (pw_below_drewN (Below.refl _ _) _))).mono ?_; rintro e w' ⟨rfl, ⟨nd2, rfl⟩⟩))
  go_ret
  exact ⟨rfl, (H.out.drewN _).breaks, gset (gdrewN (World.grownBy.refl _ _) _) _ _⟩
set_option maxRecDepth 100000 in
theorem num_ok (g : Nat) (xs : List Int) (w : World) (h : Rdr p w g xs false) (m k : Nat) (hd : dec xs = (m, k)) (hk : k ≠ 0) :
    Calls Tryd.prog 32 #[.pointer (some ⟨g, 0, none⟩)] w fun e w' => e = .returned (.int .u64 (m : Int)) ∧ Rdr p w' g (xs.drop k) false ∧ w.grownBy w' (some g) := by
  have H := Lib.hid h
  obtain ⟨A, c, hb, hc, hr, hne⟩ := h.cell
  have hkl := (dec_back xs h.bytes m k hd hk).2.2.2.1
  have h0 := blk_cell hb 0
  have f0 := blk_frozen hb 0
  simp only [List.getElem?_toArray, List.getElem?_cons_succ, List.getElem?_cons_zero] at h0
  obtain ⟨A', hcut, hrd, hA'⟩ := cutFrom A xs c k hkl hc
  have HB := Lib.hid hb
  have HM := Lib.hid hrd
  have HA := Lib.hid hA'
  have HN0 := fun w' (hd : ReadsInt w' .u8 A xs.length xs) => number_calls A c xs w' hd hc h.bytes h.small
  rw [hd] at HN0
  have HN := Lib.hid HN0
  have Hr := Lib.hid hr
  have hk0 : (((k : Nat) : Int) == 0) = false := by rw [beq_eq_false_iff_ne]; omega
  have hk1 : ((k : Nat) : Int) ≤ (xs.length : Int) := by omega
  have Hkl := Lib.hid hkl
  clear hb hc hr hne h hd hk HN0 hrd hA' hkl
  go_enter Tryd.func32, Tryd.ntmps32
  go_wp2_with (first | (go_at_call 55; refine (fine_calls g xs false _ H.out).mono ?_; rintro e w' ⟨rfl, ⟨nd, rfl⟩⟩) | (go_at_call 56; refine (HN.out _ (Hr.out.below (pw_below_drewN (Below.refl _ _) _))).mono ?_; rintro e w' ⟨rfl, ⟨nd2, rfl⟩⟩))
  go_ret
  exact ⟨rfl, (H.out.drewN _).moves (blk_drewN HB.out _) Hkl.out HM.out HA.out, gset (gdrewN (World.grownBy.refl _ _) _) _ _⟩
theorem num_calls (g : Nat) (xs : List Int) (br : Bool) (w : World) (h : Rdr p w g xs br) :
    Calls Tryd.prog 32 #[.pointer (some ⟨g, 0, none⟩)] w fun e w' => e = .returned (.int .u64 ((rNum (xs, br)).1 : Int)) ∧ Rdr p w' g (rNum (xs, br)).2.1 (rNum (xs, br)).2.2 ∧ w.grownBy w' (some g) := by
  unfold rNum
  cases br with
  | true => exact num_broken g xs w h
  | false =>
    simp only [Bool.false_eq_true, if_false]
    by_cases hk : (dec xs).2 = 0
    · rw [if_pos hk]; exact num_no g xs w h hk
    · rw [if_neg hk]; exact num_ok g xs w h _ _ rfl hk
theorem Rdr.new {w1 : World} {A1 : Option Addr} {c1 : Nat} {xs : List Int} (hr : ReadsInt w1 .u8 A1 xs.length xs) (hc : xs.length ≤ c1) (hb : Bytes xs) (hs : xs.length ≤ 140737488355328) (hp : ∀ ad, A1 = some ad → 0 < xs.length → p ad.block) :
    Rdr p (w1.alloc (.cells #[.slice A1 xs.length c1, .bool true, .bool false] 106)) w1.heap.size xs false := by
  refine ⟨⟨A1, c1, blk_new _ _, hc, hr.below (below_alloc (Below.refl _ _) _), fun ad e h0 e2 => ?_⟩, hs, hb, fun A c h => by
    rw [blk_new] at h
    simp only [Option.some.injEq, Obj.cells.injEq, Array.mk.injEq, List.cons.injEq, Value.slice.injEq, and_true, true_and] at h
    obtain ⟨rfl, rfl⟩ := h
    exact hp⟩
  obtain ⟨ad', e', hcell⟩ := hr.2.2 h0
  rw [e] at e'
  obtain rfl := Option.some.inj e'
  have := World.block_lt_of_cell? w1 _ (hcell 0 h0)
  have hbk : (ad.add 0).block = ad.block := by unfold Addr.add; split <;> rfl
  omega
set_option maxHeartbeats 400000 in
set_option maxRecDepth 100000 in
theorem new_calls (A : Option Addr) (c : Nat) (xs : List Int) (w : World) (hr : ReadsInt w .u8 A xs.length xs) (hc : xs.length ≤ c) (hb : Bytes xs) (hs : xs.length ≤ 140737488355328) :
    Calls Tryd.prog 29 #[.slice A xs.length c] w fun e w' => ∃ g, e = .returned (.pointer (some ⟨g, 0, none⟩)) ∧ w.heap.size ≤ g ∧ Rdr (fun k => w.heap.size ≤ k ∧ k < g) w' g xs false ∧ Below w.heap.size w w' := by
  have Hr := Lib.hid hr
  clear hr
  go_enter Tryd.func29, Tryd.ntmps29
  go_wp2_with (at_builtin; refine print_append_row (w0 := w) w.heap.size rfl (.tmp 3) (.tmp 4) 41 5 .u8 1 rfl Tryd.underlying41 infoU8 (by decide) (.slice (some ⟨w.heap.size, 0, none⟩) 0 0) [] xs A xs.length c rfl rfl ?own ?reads ?below ?size ?len ?_; (case own => exact OB.empty w _ (Nat.le_refl _)); (case reads => exact Hr.out.below (below_alloc (Below.refl _ _) _)); (case below => exact below_alloc (Below.refl _ _) _); (case size => simp); (case len => simp; omega); intro v1 w1 hown hb1 hg hat; rw [List.nil_append] at hown; obtain ⟨A1, c1, rfl, hc1, hr1⟩ := OB.slice hown; have HO := Lib.hid hown; have HB := Lib.hid hb1; have HR := Lib.hid hr1; clear hown hb1 hr1 hg hat)
  go_ret
  refine ⟨w1.heap.size, rfl, HB.out.size, Rdr.new HR.out hc1 hb hs (fun ad e h0 => ⟨own_base HO.out ad.block (by rw [e]; rfl), own_lt HO.out ad.block (by rw [e]; rfl)⟩), below_alloc HB.out _⟩
theorem err_calls (g : Nat) (xs : List Int) (br : Bool) (w : World) (h : Rdr p w g xs br) :
    Calls Tryd.prog 41 #[.pointer (some ⟨g, 0, none⟩)] w fun e w' => e = .returned (.int .i64 (if br then 4 else 0)) ∧ Drawn0 w w' := by
  obtain ⟨A, c, hb, hc, hr, hne⟩ := h.cell
  have h1 := blk_cell hb 1
  have h2 := blk_cell hb 2
  simp only [List.getElem?_toArray, List.getElem?_cons_succ, List.getElem?_cons_zero] at h1 h2
  clear hb hc hr hne h
  cases br
  all_goals
    go_enter Tryd.func41, Tryd.ntmps41
    go_wp2
    go_ret
    exact ⟨rfl, by repeat (first | exact Drawn0.refl _ | apply Drawn0.step)⟩
theorem turned_calls (g : Nat) (xs : List Int) (br : Bool) (w : World) (h : Rdr p w g xs br) :
    Calls Tryd.prog 57 #[.pointer (some ⟨g, 0, none⟩), .func (.func 32) #[.pointer (some ⟨g, 0, none⟩)] #[]] w fun e w' => e = .returned (.int .i64 (zag (rNum (xs, br)).1)) ∧ Rdr p w' g (rNum (xs, br)).2.1 (rNum (xs, br)).2.2 ∧ w.grownBy w' (some g) := by
  have H := Lib.hid h
  clear h
  obtain ⟨q, hq⟩ : ∃ q, q = rNum (xs, br) := ⟨_, rfl⟩
  have HN0 := num_calls g xs br w H.out
  rw [← hq] at HN0 ⊢
  have HN := Lib.hid HN0
  have hql : q.1 < 18446744073709551616 := by rw [hq]; exact rNum_lt _ H.out.bytes
  have Hql := Lib.hid hql
  clear hq HN0 hql
  go_enter Tryd.func57, Tryd.ntmps57
  go_wp2_with (refine HN.out.mono ?_; rintro e w' ⟨rfl, hr, hg⟩)
  go_ret
  exact ⟨by rw [← xor_zag _ Hql.out]; rfl, hr, hg⟩
theorem int_calls (g : Nat) (xs : List Int) (br : Bool) (w : World) (h : Rdr p w g xs br) :
    Calls Tryd.prog 33 #[.pointer (some ⟨g, 0, none⟩)] w fun e w' => e = .returned (.int .i64 (rInt (xs, br)).1) ∧ Rdr p w' g (rInt (xs, br)).2.1 (rInt (xs, br)).2.2 ∧ w.grownBy w' (some g) := by
  have H := Lib.hid h
  clear h
  cases br with
  | true =>
    unfold rInt
    go_enter Tryd.func33, Tryd.ntmps33
    go_wp2_with (go_at_call 55; refine (fine_calls g xs true _ H.out).mono ?_; rintro e w' ⟨rfl, ⟨nd, rfl⟩⟩)
    go_ret
    exact ⟨rfl, H.out.drewN _, gdrewN (World.grownBy.refl _ _) _⟩
  | false =>
    have e : rInt (xs, false) = (zag (rNum (xs, false)).1, (rNum (xs, false)).2) := rfl
    rw [e]
    obtain ⟨q, hq⟩ : ∃ q, q = rNum (xs, false) := ⟨_, rfl⟩
    have HT0 := fun w' (h' : Rdr p w' g xs false) => turned_calls g xs false w' h'
    rw [← hq] at HT0 ⊢
    have HT := Lib.hid HT0
    clear hq HT0 e
    go_enter Tryd.func33, Tryd.ntmps33
    go_wp2_with (first | (go_at_call 55; refine (fine_calls g xs false _ H.out).mono ?_; rintro e w' ⟨rfl, ⟨nd, rfl⟩⟩) | (go_at_call 57; refine (HT.out _ (H.out.drewN _)).mono ?_; rintro e w' ⟨rfl, hr, hg⟩))
    go_ret
    exact ⟨rfl, hr, gtrans (gdrewN (World.grownBy.refl _ _) _) hg⟩
end Go.Proofs.YtijjecnmdhefbaaDoor.BQ

namespace Go.Proofs.YtijjecnmdhefbaaDoor.RG
open Go.ChangeShapes Go.WideShapes Go.Deep Go.RowKit Go.Proofs.YtijjecnmdhefbaaDoorW.PrintWords Go.Proofs.YtijjecnmdhefbaaDoorW.PrintLast Go.Proofs.YtijjecnmdhefbaaDoorW.PrintMore Go.Proofs.YtijjecnmdhefbaaDoor.CD Go.Proofs.YtijjecnmdhefbaaDoor.BR Go.Proofs.YtijjecnmdhefbaaDoor.BP
set_option linter.unusedVariables false
set_option maxRecDepth 100000
set_option linter.unusedSimpArgs false
def kE : Kd Ent := Kd.pair (Kd.int .i64) (Kd.pair (Kd.int .i64) (Kd.pair (Kd.int .i64) (Kd.int .i64)))
def eCells (x : Ent) : List Value := [.int .i64 x.1, .int .i64 x.2.1, .int .i64 x.2.2.1, .int .i64 x.2.2.2]
theorem kE_open {w : World} {x : Ent} {cs : List Value} (h : kE.K w x cs) : cs = eCells x := by
  obtain ⟨_, _, rfl, rfl, ⟨_, _, rfl, rfl, ⟨_, _, rfl, rfl, rfl⟩⟩⟩ := h
  rfl
theorem kE_mkM (w : World) (base : Nat) (ok : Nat → Prop) (x : Ent) : kE.M w base ok x (eCells x) := ⟨[.int .i64 x.1], [.int .i64 x.2.1, .int .i64 x.2.2.1, .int .i64 x.2.2.2], rfl, rfl, ⟨[.int .i64 x.2.1], [.int .i64 x.2.2.1, .int .i64 x.2.2.2], rfl, rfl, ⟨[.int .i64 x.2.2.1], [.int .i64 x.2.2.2], rfl, rfl, rfl⟩⟩⟩
theorem ents_of_C {w : World} {A : Option Addr} {n : Nat} {xs : List Ent} (h : Kd.C kE w A n xs) : Ents w A n xs := by
  refine ⟨h.1, fun j hj => ?_⟩
  obtain ⟨ad, e, hc⟩ := h.2.2 (by omega)
  obtain ⟨c, hl, hk, hcell⟩ := hc j (xs.getD j E0) (by rw [List.getD_eq_getElem?_getD, List.getElem?_eq_getElem (by have := h.1; omega)]; rfl)
  obtain rfl := kE_open hk
  refine ⟨ad, e, hcell 0 _ rfl, ?_, ?_, ?_⟩
  · rw [← at_field ad (j * 4) 1 (by decide)]; exact hcell 1 _ rfl
  · rw [← at_field ad (j * 4) 2 (by decide)]; exact hcell 2 _ rfl
  · rw [← at_field ad (j * 4) 3 (by decide)]; exact hcell 3 _ rfl
end Go.Proofs.YtijjecnmdhefbaaDoor.RG

namespace Go.Proofs.YtijjecnmdhefbaaDoor.RG
open Go.RowKit Go.Proofs.YtijjecnmdhefbaaDoor.CD Go.Proofs.YtijjecnmdhefbaaDoor.BR
set_option linter.unusedVariables false
set_option linter.unusedSimpArgs false
def rNext (s : St) : Int × St := (if (rNum s).1 > 4611686018427387904 then -1 else ((rNum s).1 : Int), (rNum s).2)
def rEntry (at_ : Int) (s : St) : Int × Ent × St :=
  ((rNext s).1, (at_ + (1 + (rNext s).1), (rNext (rNext s).2).1, (rNext (rNext (rNext s).2).2).1, (rNext (rNext (rNext (rNext s).2).2).2).1), (rNext (rNext (rNext (rNext s).2).2).2).2)
def getF : Nat → Int → St → Int → List Ent → Option (List Ent × St)
  | 0, _, _, _, _ => none
  | f + 1, n, s, at_, acc =>
    if (acc.length : Int) < n ∧ s.2 = false then
      if 0 ≤ (rEntry at_ s).1 ∧ (rEntry at_ s).1 ≤ 1024 then
        if eMay (rEntry at_ s).2.1 = true then getF f n (rEntry at_ s).2.2 (rEntry at_ s).2.1.1 (acc ++ [(rEntry at_ s).2.1]) else none
      else none
    else some (acc, s)
def getD0 (X : List Int) : Option (List Ent × St) := getF 1025 (rNext (X, false)).1 (rNext (X, false)).2 (-1) []
def fin (X : List Int) : Option (List Ent × St) → Option (List Ent)
  | none => none
  | some (l, s) =>
    match dir l with
    | .ok b => if b = X ∧ s.2 = false then some l else none
    | .error _ => none
def getDir (X : List Int) : Option (List Ent) := fin X (getD0 X)
theorem fin_err (X : List Int) (l : List Ent) (s : St) (k : Int) (h : dir l = .error k) : fin X (some (l, s)) = none := by simp only [fin]; rw [h]
theorem fin_ok (X : List Int) (l : List Ent) (s : St) (b : List Int) (h : dir l = .ok b) : fin X (some (l, s)) = if b = X ∧ s.2 = false then some l else none := by simp only [fin]; rw [h]
theorem rNext_range (s : St) (h : Bytes s.1) : -1 ≤ (rNext s).1 ∧ (rNext s).1 ≤ 4611686018427387904 := by
  unfold rNext
  simp only
  split <;> omega
theorem getF_some : ∀ (f : Nat) (n : Int) (s : St) (at_ : Int) (acc : List Ent), (acc.length : Int) < n ∧ s.2 = false → 0 ≤ (rEntry at_ s).1 ∧ (rEntry at_ s).1 ≤ 1024 → eMay (rEntry at_ s).2.1 = true →
    getF (f + 1) n s at_ acc = getF f n (rEntry at_ s).2.2 (rEntry at_ s).2.1.1 (acc ++ [(rEntry at_ s).2.1]) := by
  intro f n s at_ acc h1 h2 h3
  rw [getF, if_pos h1, if_pos h2, if_pos h3]
theorem getF_by (f : Nat) (n : Int) (s : St) (at_ : Int) (acc : List Ent) (h1 : (acc.length : Int) < n ∧ s.2 = false) (h2 : ¬ (0 ≤ (rEntry at_ s).1 ∧ (rEntry at_ s).1 ≤ 1024)) : getF (f + 1) n s at_ acc = none := by
  rw [getF, if_pos h1, if_neg h2]
theorem getF_may (f : Nat) (n : Int) (s : St) (at_ : Int) (acc : List Ent) (h1 : (acc.length : Int) < n ∧ s.2 = false) (h2 : 0 ≤ (rEntry at_ s).1 ∧ (rEntry at_ s).1 ≤ 1024) (h3 : eMay (rEntry at_ s).2.1 = false) : getF (f + 1) n s at_ acc = none := by
  rw [getF, if_pos h1, if_pos h2, h3]; rfl
theorem getF_end (f : Nat) (n : Int) (s : St) (at_ : Int) (acc : List Ent) (h1 : ¬ ((acc.length : Int) < n ∧ s.2 = false)) : getF (f + 1) n s at_ acc = some (acc, s) := by
  rw [getF, if_neg h1]
end Go.Proofs.YtijjecnmdhefbaaDoor.RG

namespace Go.Proofs.YtijjecnmdhefbaaDoor.RG
open Go.RowKit Go.Proofs.YtijjecnmdhefbaaDoor.CD Go.Proofs.YtijjecnmdhefbaaDoor.BR
set_option linter.unusedVariables false
set_option linter.unusedSimpArgs false
def rMay (x : Ent) : Bool := decide ((-4096 ≤ x.1 ∧ x.1 ≤ 4095) ∧ (-4096 ≤ x.2.1 ∧ x.2.1 ≤ 4095) ∧ (1 ≤ x.2.2.1 ∧ x.2.2.1 ≤ 131071) ∧ 1 ≤ x.2.2.2 ∧ x.2.2.2 ≤ 65536)
def rNums (x : Ent) : List Int := num (zig x.1) ++ (num (zig x.2.1) ++ (num x.2.2.1.toNat ++ num x.2.2.2.toNat))
def late : Option Ent → Ent → Bool
  | none, _ => false
  | some y, x => decide (x.1 < y.1 ∨ x.1 = y.1 ∧ x.2.1 ≤ y.2.1)
def rootF : Option Ent → List Ent → Except Int (List Int)
  | _, [] => .ok []
  | was, x :: l => if rMay x = false then .error 2 else if late was x = true then .error 6 else (rootF (some x) l).map (rNums x ++ ·)
def root (l : List Ent) : Except Int (List Int) := (rootF none l).map (num l.length ++ ·)
def rInt' (s : St) : Int × St := (zag (rNum s).1, (rNum s).2)
end Go.Proofs.YtijjecnmdhefbaaDoor.RG

namespace Go.Proofs.YtijjecnmdhefbaaDoor.RG
open Go.RowKit Go.Proofs.YtijjecnmdhefbaaDoor.CD Go.Proofs.YtijjecnmdhefbaaDoor.BR
set_option linter.unusedVariables false
set_option linter.unusedSimpArgs false
theorem rNum_num (n : Nat) (rest : List Int) (h : n < 18446744073709551616) : rNum (num n ++ rest, false) = (n, (rest, false)) := by
  unfold rNum
  have hp := num_pos n
  simp only [Bool.false_eq_true, if_false]
  rw [dec_num n rest h]
  simp only
  rw [if_neg (by omega), List.drop_left]
theorem rNext_num (z : Int) (rest : List Int) (h : 0 ≤ z ∧ z ≤ 4611686018427387904) : rNext (num z.toNat ++ rest, false) = (z, (rest, false)) := by
  unfold rNext
  rw [rNum_num _ _ (by omega)]
  simp only
  rw [if_neg (by omega), Int.toNat_of_nonneg h.1]
theorem rInt_num (i : Int) (rest : List Int) (h : -9223372036854775808 ≤ i ∧ i < 9223372036854775808) : rInt' (num (zig i) ++ rest, false) = (i, (rest, false)) := by
  unfold rInt'
  rw [rNum_num _ _ (zig_lt i h), zag_zig]
end Go.Proofs.YtijjecnmdhefbaaDoor.RG

namespace Go.Proofs.YtijjecnmdhefbaaDoor.SP
open Go.Proofs.YtijjecnmdhefbaaDoor.CD Go.Proofs.YtijjecnmdhefbaaDoor.CK Go.Proofs.YtijjecnmdhefbaaDoor.BR Go.Proofs.YtijjecnmdhefbaaDoor.RG
set_option linter.unusedVariables false
def spotB (x y z : Int) : Bool := decide (-65536 ≤ x ∧ x < 65536) && (decide (-65536 ≤ z ∧ z < 65536) && decide (0 ≤ y ∧ y < 4))
def ancOk (a : Anc) : Bool := if a.on then spotB a.x a.y a.z else decide (a.x = 0 ∧ a.y = 0 ∧ a.z = 0)
structure Lim where
  low : Int
  high : Int
  now : Int
  blob : Int
def lims : Lim := ⟨256, 131072, 1099511627776, 65536⟩
structure Ok (k : Lim) (s : Sup) : Prop where
  sectors : k.low ≤ s.sectors ∧ s.sectors ≤ k.high
  seed : s.seed < 18446744073709551616
  now : 0 ≤ s.now ∧ s.now ≤ k.now
  a : ancOk s.a = true
  b : ancOk s.b = true
  placed : 0 ≤ s.placed ∧ s.placed ≤ 4611686018427387904
  broken : 0 ≤ s.broken ∧ s.broken ≤ 4611686018427387904
  grown : 0 ≤ s.grown ∧ s.grown ≤ 4611686018427387904
  burnt : 0 ≤ s.burnt ∧ s.burnt ≤ 4611686018427387904
  root : s.head = 0 ∧ s.size = 0 ∨ (1 ≤ s.head ∧ s.head ≤ s.sectors - 1) ∧ 1 ≤ s.size ∧ s.size ≤ k.blob
  saves : 0 ≤ s.saves ∧ s.saves ≤ 4611686018427387904
def readA (s : St) : Anc × St :=
  let o := rNext s
  let x := rInt' o.2
  let y := rInt' x.2
  let z := rInt' y.2
  (⟨decide (o.1 = 1), x.1, y.1, z.1⟩, z.2)
theorem ancOk_range {a : Anc} (h : ancOk a = true) : (-9223372036854775808 ≤ a.x ∧ a.x < 9223372036854775808) ∧ (-9223372036854775808 ≤ a.y ∧ a.y < 9223372036854775808) ∧ (-9223372036854775808 ≤ a.z ∧ a.z < 9223372036854775808) := by
  unfold ancOk spotB at h
  split at h
  · simp only [Bool.and_eq_true, decide_eq_true_eq] at h
    omega
  · simp only [decide_eq_true_eq] at h
    omega
theorem rNext_nat (n : Nat) (rest : List Int) (h : n ≤ 4611686018427387904) : rNext (num n ++ rest, false) = ((n : Int), (rest, false)) := by
  have := rNext_num (n : Int) rest (by omega)
  rwa [Int.toNat_natCast] at this
theorem readA_put (a : Anc) (rest : List Int) (h : ancOk a = true) : readA (ancB a ++ rest, false) = (a, (rest, false)) := by
  obtain ⟨hx, hy, hz⟩ := ancOk_range h
  have e : ancB a ++ rest = num (if a.on then 1 else 0) ++ (num (zig a.x) ++ (num (zig a.y) ++ (num (zig a.z) ++ rest))) := by
    unfold ancB
    simp only [List.append_assoc]
  have e0 : rNext (ancB a ++ rest, false) = (((if a.on then 1 else 0 : Nat) : Int), (num (zig a.x) ++ (num (zig a.y) ++ (num (zig a.z) ++ rest)), false)) := by
    rw [e, rNext_nat _ _ (by split <;> decide)]
  unfold readA
  simp only [e0, rInt_num _ _ hx, rInt_num _ _ hy, rInt_num _ _ hz]
  have : decide (((if a.on = true then 1 else 0 : Nat) : Int) = 1) = a.on := by cases a.on <;> simp
  rw [this]
def readS (l : List Int) : Sup :=
  let q1 := rNext (l, false)
  let q2 := rNum q1.2
  let q3 := rNext q2.2
  let qa := readA q3.2
  let qb := readA qa.2
  let q4 := rNext qb.2
  let q5 := rNext q4.2
  let q6 := rNext q5.2
  let q7 := rNext q6.2
  let q8 := rNext q7.2
  let q9 := rNext q8.2
  let q10 := rNext q9.2
  ⟨q1.1, q2.1, q3.1, qa.1, qb.1, q4.1, q5.1, q6.1, q7.1, q8.1, q9.1, q10.1⟩
theorem nums_at (n : Int) (l rest : List Int) : nums (n :: l) ++ rest = num n.toNat ++ (nums l ++ rest) := by
  rw [← List.append_assoc]; rfl
theorem readS_put (k : Lim) (s : Sup) (h : Ok k s) (hk : 0 ≤ k.low ∧ k.high ≤ 4611686018427387904 ∧ k.now ≤ 4611686018427387904 ∧ k.blob ≤ 4611686018427387904) : readS ((putS s).drop 8) = s := by
  obtain ⟨Z, hZ⟩ : ∃ Z, List.replicate (508 - (body s).length) (0 : Int) ++ fixed 4 (sumI (data s)) = Z := ⟨_, rfl⟩
  have hb : (putS s).drop 8 = num s.sectors.toNat ++ (num s.seed ++ (num s.now.toNat ++ (ancB s.a ++ (ancB s.b ++ (nums [s.placed, s.broken, s.grown, s.burnt, s.head, s.size, s.saves] ++ Z))))) := by
    unfold putS sealB
    conv => lhs; rw [show data s = body s ++ List.replicate (508 - (body s).length) 0 from rfl]
    rw [List.append_assoc]
    rw [show fixed 4 (sumI (body s ++ List.replicate (508 - (body s).length) 0)) = fixed 4 (sumI (data s)) from rfl, hZ]
    unfold body
    rw [List.append_assoc, List.drop_left' (show magic.length = 8 from rfl)]
    simp only [List.append_assoc]
  have hr := h.root
  have hs := h.sectors
  have hn := h.now
  have e1 : rNext ((putS s).drop 8, false) = (s.sectors, (num s.seed ++ (num s.now.toNat ++ (ancB s.a ++ (ancB s.b ++ (nums [s.placed, s.broken, s.grown, s.burnt, s.head, s.size, s.saves] ++ Z)))), false)) := by
    rw [hb, rNext_num _ _ (by omega)]
  unfold readS
  simp only [e1, rNum_num _ _ h.seed, rNext_num s.now _ ⟨by omega, by omega⟩, readA_put _ _ h.a, readA_put _ _ h.b, nums_at,
    rNext_num _ _ h.placed, rNext_num _ _ h.broken, rNext_num _ _ h.grown, rNext_num _ _ h.burnt, rNext_num s.head _ ⟨by omega, by omega⟩, rNext_num s.size _ ⟨by omega, by omega⟩, rNext_num _ _ h.saves]
theorem ancB_bytes (a : Anc) (h : ancOk a = true) : Bytes (ancB a) := by
  obtain ⟨hx, hy, hz⟩ := ancOk_range h
  unfold ancB
  exact (num_bytes _ (by split <;> decide)).append ((num_bytes _ (zig_lt _ hx)).append ((num_bytes _ (zig_lt _ hy)).append (num_bytes _ (zig_lt _ hz))))
theorem nums_bytes : ∀ l : List Int, (∀ n ∈ l, n < 18446744073709551616) → Bytes (nums l)
  | [], _ => Bytes.nil
  | n :: l, h => by
    have e : nums (n :: l) = num n.toNat ++ nums l := rfl
    rw [e]
    have := h n List.mem_cons_self
    exact (num_bytes _ (by omega)).append (nums_bytes l fun x hx => h x (List.mem_cons_of_mem _ hx))
theorem body_bytes (s : Sup) (h : Ok lims s) : Bytes (body s) := by
  have hs := h.sectors
  have hn := h.now
  have hr := h.root
  simp only [lims] at hs hn hr
  unfold body
  refine Bytes.append (by unfold magic; intro x hx; simp at hx; omega) (Bytes.append (num_bytes _ (by omega)) (Bytes.append (num_bytes _ h.seed) (Bytes.append (num_bytes _ (by omega)) ((ancB_bytes _ h.a).append ((ancB_bytes _ h.b).append (nums_bytes _ ?_))))))
  intro n hn
  simp only [List.mem_cons, List.not_mem_nil, or_false] at hn
  have h1 := h.placed
  have h2 := h.broken
  have h3 := h.grown
  have h4 := h.burnt
  have h5 := h.saves
  rcases hn with rfl | rfl | rfl | rfl | rfl | rfl | rfl <;> omega
theorem data_bytes (s : Sup) (h : Ok lims s) : Bytes (data s) := by
  unfold data
  exact (body_bytes s h).append fun x hx => by
    obtain ⟨_, rfl⟩ := List.mem_replicate.1 hx
    omega
theorem putS_bytes (s : Sup) (h : Ok lims s) : Bytes (putS s) := (data_bytes s h).append (fixed_bytes _ _)
end Go.Proofs.YtijjecnmdhefbaaDoor.SP

namespace Go.Proofs.YtijjecnmdhefbaaDoor.SP
open Go.RowKit Go.Proofs.YtijjecnmdhefbaaDoorW.PrintWords Go.Proofs.YtijjecnmdhefbaaDoorW.PrintLast Go.Proofs.YtijjecnmdhefbaaDoorW.PrintMore Go.Proofs.YtijjecnmdhefbaaDoor.CD Go.Proofs.YtijjecnmdhefbaaDoor.BR Go.Proofs.YtijjecnmdhefbaaDoor.BP
set_option linter.unusedVariables false
set_option linter.unusedSimpArgs false
set_option maxRecDepth 100000
def supC (s : Sup) : List Value := [.int .i64 s.sectors, .int .i64 s.now, .int .u64 (s.seed : Int), .int .i64 s.a.x, .int .i64 s.a.y, .int .i64 s.a.z, .bool s.a.on, .int .i64 s.b.x, .int .i64 s.b.y, .int .i64 s.b.z, .bool s.b.on,
  .int .i64 s.placed, .int .i64 s.broken, .int .i64 s.grown, .int .i64 s.burnt, .int .i64 s.head, .int .i64 s.size, .int .i64 s.saves]
def anc (s : Sup) (i : Nat) : Anc := if i = 0 then s.a else s.b
def led (s : Sup) (i : Nat) : Int := if i = 0 then s.placed else if i = 1 then s.broken else if i = 2 then s.grown else s.burnt
def inB (a b n : Int) : Bool := decide (a ≤ n) && decide (n ≤ b)
def rootB (s : Sup) : Bool := (decide (s.head = 0) && decide (s.size = 0)) || (inB 1 (s.sectors - 1) s.head && inB 1 65536 s.size)
def superB (s : Sup) : Bool := inB 256 131072 s.sectors && (inB 0 1099511627776 s.now && (inB 0 4611686018427387904 s.saves && (ancOk s.a && (ancOk s.b && (inB 0 4611686018427387904 s.placed && (inB 0 4611686018427387904 s.broken && (inB 0 4611686018427387904 s.grown && (inB 0 4611686018427387904 s.burnt && rootB s))))))))
theorem superB_iff (s : Sup) (h : s.seed < 18446744073709551616) : superB s = true ↔ Ok lims s := by
  unfold superB rootB inB
  simp only [Bool.and_eq_true, Bool.or_eq_true, decide_eq_true_eq]
  constructor
  · rintro ⟨a1, a2, a3, a4, a5, a6, a7, a8, a9, a10⟩
    exact ⟨a1, h, a2, a4, a5, a6, a7, a8, a9, by simp only [lims]; omega, a3⟩
  · intro k
    have hr := k.root
    have h1 := k.sectors
    have h2 := k.now
    simp only [lims] at hr h1 h2
    exact ⟨h1, h2, k.saves, k.a, k.b, k.placed, k.broken, k.grown, k.burnt, by omega⟩
theorem within_calls (a b n : Int) (w : World) : Calls Tryd.prog 38 #[.int .i64 n, .int .i64 a, .int .i64 b] w fun e w' => e = .returned (.bool (inB a b n)) ∧ Below w.heap.size w w' :=
  (PRegionKnown.region_within.calls n a b _ w (show _ = some (inB a b n) by
    unfold PRegionKnown.region_within.f inB
    by_cases h : n ≥ a
    · rw [if_pos h, decide_eq_true (show a ≤ n from h)]; rfl
    · rw [if_neg h, decide_eq_false (show ¬ a ≤ n from h)]; rfl)).mono fun e w' h => ⟨h.1, h.2.below⟩
theorem spot_calls (x y z : Int) (w : World) : Calls Tryd.prog 37 #[.agg #[.int .i64 x, .int .i64 y, .int .i64 z]] w fun e w' => e = .returned (.bool (spotB x y z)) ∧ Below w.heap.size w w' :=
  PRegionKnown.place_MaySpot.calls x y z _ w (by
    unfold PRegionKnown.place_MaySpot.f spotB
    by_cases h1 : x ≥ -65536
    · by_cases h2 : x < 65536
      · by_cases h3 : z ≥ -65536
        · by_cases h4 : z < 65536
          · by_cases h5 : y ≥ 0
            · rw [if_pos h1, if_pos h2, if_pos h3, if_pos h4, if_pos h5, decide_eq_true (show -65536 ≤ x ∧ x < 65536 by omega), decide_eq_true (show -65536 ≤ z ∧ z < 65536 by omega)]
              simp [show (0 ≤ y) from h5]
            · rw [if_pos h1, if_pos h2, if_pos h3, if_pos h4, if_neg h5, decide_eq_false (show ¬ (0 ≤ y ∧ y < 4) by omega)]; simp
          · rw [if_pos h1, if_pos h2, if_pos h3, if_neg h4, decide_eq_false (show ¬ (-65536 ≤ z ∧ z < 65536) by omega)]; simp
        · rw [if_pos h1, if_pos h2, if_neg h3, decide_eq_false (show ¬ (-65536 ≤ z ∧ z < 65536) by omega)]; simp
      · rw [if_pos h1, if_neg h2, decide_eq_false (show ¬ (-65536 ≤ x ∧ x < 65536) by omega)]; simp
    · rw [if_neg h1, decide_eq_false (show ¬ (-65536 ≤ x ∧ x < 65536) by omega)]; simp)
theorem ixA (s : Sup) (i : Nat) (hi : i < 2) (W : World) : (Instr.index 27 (.agg #[.int .i64 s.a.x, .int .i64 s.a.y, .int .i64 s.a.z, .bool s.a.on, .int .i64 s.b.x, .int .i64 s.b.y, .int .i64 s.b.z, .bool s.b.on]) (.int .i64 (i : Int))).run Tryd.prog W = .ok (.agg #[.int .i64 (anc s i).x, .int .i64 (anc s i).y, .int .i64 (anc s i).z, .bool (anc s i).on]) W := by
  match i, hi with
  | 0, _ => rfl
  | 1, _ => rfl
theorem ixL (s : Sup) (i : Nat) (hi : i < 4) (W : World) : (Instr.index 90 (.agg #[.int .i64 s.placed, .int .i64 s.broken, .int .i64 s.grown, .int .i64 s.burnt]) (.int .i64 (i : Int))).run Tryd.prog W = .ok (.int .i64 (led s i)) W := by
  match i, hi with
  | 0, _ => rfl
  | 1, _ => rfl
  | 2, _ => rfl
  | 3, _ => rfl
def SupAt (W : World) (g : Nat) (s : Sup) : Prop := W.heap[g]? = some (.cells (supC s).toArray 33 (0, 0))
theorem SupAt.below {W W' : World} {g : Nat} {s : Sup} {n : Nat} (h : SupAt W g s) (hb : Below n W W') (hg : g < n) : SupAt W' g s := (hb.block g hg).trans h
theorem SupAt.lt {W : World} {g : Nat} {s : Sup} (h : SupAt W g s) : g < W.heap.size := blk_lt h
theorem SupAt.new (W : World) (s : Sup) : SupAt (W.alloc (.cells (supC s).toArray 33)) W.heap.size s := blk_new W _
def SupCells (W : World) (g : Nat) (s : Sup) : Prop :=
  W.cell? ⟨g, 0, none⟩ = some (.int .i64 s.sectors) ∧ W.cell? ⟨g, 1, none⟩ = some (.int .i64 s.now) ∧ W.cell? ⟨g, 2, none⟩ = some (.int .u64 (s.seed : Int)) ∧
  W.cell? ⟨g, 3, none⟩ = some (.int .i64 s.a.x) ∧ W.cell? ⟨g, 4, none⟩ = some (.int .i64 s.a.y) ∧ W.cell? ⟨g, 5, none⟩ = some (.int .i64 s.a.z) ∧ W.cell? ⟨g, 6, none⟩ = some (.bool s.a.on) ∧
  W.cell? ⟨g, 7, none⟩ = some (.int .i64 s.b.x) ∧ W.cell? ⟨g, 8, none⟩ = some (.int .i64 s.b.y) ∧ W.cell? ⟨g, 9, none⟩ = some (.int .i64 s.b.z) ∧ W.cell? ⟨g, 10, none⟩ = some (.bool s.b.on) ∧
  W.cell? ⟨g, 11, none⟩ = some (.int .i64 s.placed) ∧ W.cell? ⟨g, 12, none⟩ = some (.int .i64 s.broken) ∧ W.cell? ⟨g, 13, none⟩ = some (.int .i64 s.grown) ∧ W.cell? ⟨g, 14, none⟩ = some (.int .i64 s.burnt) ∧
  W.cell? ⟨g, 15, none⟩ = some (.int .i64 s.head) ∧ W.cell? ⟨g, 16, none⟩ = some (.int .i64 s.size) ∧ W.cell? ⟨g, 17, none⟩ = some (.int .i64 s.saves)
theorem SupAt.cells {W : World} {g : Nat} {s : Sup} (h : SupAt W g s) : SupCells W g s :=
  ⟨blk_cell h 0, blk_cell h 1, blk_cell h 2, blk_cell h 3, blk_cell h 4, blk_cell h 5, blk_cell h 6, blk_cell h 7, blk_cell h 8, blk_cell h 9, blk_cell h 10, blk_cell h 11, blk_cell h 12, blk_cell h 13, blk_cell h 14, blk_cell h 15, blk_cell h 16, blk_cell h 17⟩
theorem sup_range {W : World} {g : Nat} {s : Sup} (h : SupAt W g s) : W.rangeAt g 0 (supC s) := fun j v hv => by rw [Nat.zero_add, blk_cell h j]; simpa using hv
theorem sup_info : (Tryd.prog.info? 33).map (·.size) = some 18 := by kernel_rfl
theorem super_not {s : Sup} (h : superB s = true → False) : superB s = false := Bool.eq_false_iff.2 h
theorem anc_not {s : Sup} {i : Nat} (hi : i < 2) (h : ancOk (anc s i) = false) : superB s = false := by
  match i, hi with
  | 0, _ => have h' : ancOk s.a = false := h; unfold superB; simp [h']
  | 1, _ => have h' : ancOk s.b = false := h; unfold superB; simp [h']
theorem led_not {s : Sup} {i : Nat} (hi : i < 4) (h : inB 0 4611686018427387904 (led s i) = false) : superB s = false := by
  match i, hi with
  | 0, _ => have h' : inB 0 4611686018427387904 s.placed = false := h; unfold superB; simp [h']
  | 1, _ => have h' : inB 0 4611686018427387904 s.broken = false := h; unfold superB; simp [h']
  | 2, _ => have h' : inB 0 4611686018427387904 s.grown = false := h; unfold superB; simp [h']
  | 3, _ => have h' : inB 0 4611686018427387904 s.burnt = false := h; unfold superB; simp [h']
set_option maxHeartbeats 4000000 in
theorem super_calls (s : Sup) (w : World) :
    Calls Tryd.prog 16 #[.agg (supC s).toArray] w fun e w' => e = .returned (.bool (superB s)) ∧ Below w.heap.size w w' := by
  have HI := Lib.hid (fun W => within_calls 256 131072 s.sectors W)
  have HD := Lib.hid (show superB s = (inB 256 131072 s.sectors && (inB 0 1099511627776 s.now && (inB 0 4611686018427387904 s.saves && (ancOk s.a && (ancOk s.b && (inB 0 4611686018427387904 s.placed && (inB 0 4611686018427387904 s.broken && (inB 0 4611686018427387904 s.grown && (inB 0 4611686018427387904 s.burnt && rootB s))))))))) from rfl)
  go_enter Tryd.func16, Tryd.ntmps16
  have HA := Lib.hid (SupAt.new w s)
  have HBa := Lib.hid (below_alloc (Below.refl w.heap.size w) (.cells (supC s).toArray 33))
  obtain ⟨c0, c1, c2, c3, c4, c5, c6, c7, c8, c9, c10, c11, c12, c13, c14, c15, c16, c17⟩ := HA.out.cells
  go_wp2_with fail
  refine (HI.out _).mono ?_; rintro e w1 ⟨rfl, hb1⟩
  have HB1 := Lib.hid (below_step HBa.out hb1)
  have HA1 := Lib.hid (HA.out.below hb1 HA.out.lt)
  clear c0 c1 c2 c3 c4 c5 c6 c7 c8 c9 c10 c11 c12 c13 c14 c15 c16 c17 hb1
  obtain ⟨c0, c1, c2, c3, c4, c5, c6, c7, c8, c9, c10, c11, c12, c13, c14, c15, c16, c17⟩ := HA1.out.cells
  cases h1 : inB 256 131072 s.sectors with
  | false =>
    have HF := Lib.hid (super_not (s := s) (by rw [HD.out, h1]; simp))
    go_wp2
    go_ret
    exact ⟨by rw [HF.out]; rfl, HB1.out⟩
  | true =>
    by_cases h2 : s.now < 0
    · have HF := Lib.hid (super_not (s := s) (by rw [HD.out]; simp [inB]; omega))
      have d1 := decide_eq_true h2
      go_wp2
      go_ret
      exact ⟨by rw [HF.out]; rfl, HB1.out⟩
    · have d1 := decide_eq_false h2
      by_cases h3 : 1099511627776 < s.now
      · have HF := Lib.hid (super_not (s := s) (by rw [HD.out]; simp [inB]; omega))
        have d2 := decide_eq_true h3
        go_wp2
        go_ret
        exact ⟨by rw [HF.out]; rfl, HB1.out⟩
      · have d2 := decide_eq_false h3
        by_cases h4 : s.saves < 0
        · have HF := Lib.hid (super_not (s := s) (by rw [HD.out]; simp [inB]; omega))
          have d3 := decide_eq_true h4
          go_wp2
          go_ret
          exact ⟨by rw [HF.out]; rfl, HB1.out⟩
        · have d3 := decide_eq_false h4
          by_cases h5 : 4611686018427387904 < s.saves
          · have HF := Lib.hid (super_not (s := s) (by rw [HD.out]; simp [inB]; omega))
            have d4 := decide_eq_true h5
            go_wp2
            go_ret
            exact ⟨by rw [HF.out]; rfl, HB1.out⟩
          · have d4 := decide_eq_false h5
            go_wp2_with fail
            go_loopw [37] (fun iv W => ∃ i : Nat, i ≤ 2 ∧ iv = .int .i64 (i : Int) ∧ Aside0 (∀ j, j < i → ancOk (anc s j) = true) ∧ Aside0 (Below w1.heap.size w1 W)) (fun iv _ => 2 - (intOf iv).toNat)
            case atStart => exact ⟨0, by omega, rfl, ⟨fun j hj => by omega⟩, ⟨Below.refl _ _⟩⟩
            case round =>
              obtain ⟨i, hi, rfl, ⟨hok⟩, ⟨hb⟩⟩ := hrel
              have HB := Lib.hid hb
              have HOK := Lib.hid hok
              have HA2 := Lib.hid (HA1.out.below hb HA1.out.lt)
              clear hb hok c0 c1 c2 c3 c4 c5 c6 c7 c8 c9 c10 c11 c12 c13 c14 c15 c16 c17
              by_cases hlt : i < 2
              · have hd := decide_eq_true (show (i : Int) < 2 by omega)
                have ix := ixA s i hlt
                obtain ⟨⟨on, x, y, z⟩, hq⟩ : ∃ q, anc s i = q := ⟨_, rfl⟩
                rw [hq] at ix
                have HQ := Lib.hid hq
                have HN := Lib.hid (fun h : ancOk (anc s i) = false => anc_not hlt h)
                clear hq
                have HSP := Lib.hid (fun W => spot_calls x y z W)
                cases on with
                | true =>
                  have HO := Lib.hid (show ancOk (anc s i) = spotB x y z by rw [HQ.out]; rfl)
                  go_wp2_with fail
                  refine (HSP.out _).mono ?_; rintro e w3 ⟨rfl, hb3⟩
                  have HB3 := Lib.hid (below_step (below_alloc HB.out _) hb3)
                  have Hbx := blk_below (blk_new wr (.cells #[.int .i64 x, .int .i64 y, .int .i64 z, .bool true] 26)) hb3
                  have y3 := blk_cell Hbx 3
                  simp only [List.getElem?_toArray, List.getElem?_cons_succ, List.getElem?_cons_zero] at y3
                  clear hb3 Hbx
                  cases hs : spotB x y z with
                  | true =>
                    have HO2 := Lib.hid (HO.out.trans hs)
                    go_wp2
                    go_roundw
                    case rel => exact ⟨i + 1, by omega, rfl, ⟨fun j hj => by
                      rcases Nat.lt_or_ge j i with h | h
                      · exact HOK.out j h
                      · obtain rfl : j = i := by omega
                        exact HO2.out⟩, ⟨HB3.out⟩⟩
                    case measure => simp [intOf]; omega
                  | false =>
                    have HF := Lib.hid (HN.out (HO.out.trans hs))
                    go_wp2
                    go_ret
                    exact ⟨by rw [HF.out]; rfl, below_step HB1.out HB3.out⟩
                | false =>
                  by_cases hz : x = 0 ∧ y = 0 ∧ z = 0
                  · obtain ⟨rfl, rfl, rfl⟩ := hz
                    have HO2 := Lib.hid (show ancOk (anc s i) = true by rw [HQ.out]; rfl)
                    go_wp2
                    go_roundw
                    case rel => exact ⟨i + 1, by omega, rfl, ⟨fun j hj => by
                      rcases Nat.lt_or_ge j i with h | h
                      · exact HOK.out j h
                      · obtain rfl : j = i := by omega
                        exact HO2.out⟩, ⟨below_alloc HB.out _⟩⟩
                    case measure => simp [intOf]; omega
                  · have HF := Lib.hid (HN.out (show ancOk (anc s i) = false by rw [HQ.out]; unfold ancOk; simp; omega))
                    have hz3 : x ≠ 0 ∨ (x = 0 ∧ y ≠ 0) ∨ (x = 0 ∧ y = 0 ∧ z ≠ 0) := by omega
                    clear hz
                    rcases hz3 with h1 | ⟨rfl, h2⟩ | ⟨rfl, rfl, h3⟩
                    all_goals (go_wp2; go_ret; exact ⟨by rw [HF.out]; rfl, below_step HB1.out (below_alloc HB.out _)⟩)
              · have hd := decide_eq_false (show ¬ (i : Int) < 2 by omega)
                obtain ⟨c0, c1, c2, c3, c4, c5, c6, c7, c8, c9, c10, c11, c12, c13, c14, c15, c16, c17⟩ := HA2.out.cells
                have HOA := Lib.hid (HOK.out 0 (by omega))
                have HOB := Lib.hid (HOK.out 1 (by omega))
                have HB2 := Lib.hid (below_step HB1.out HB.out)
                go_wp2_with fail
                have HL := Lib.hid (below_alloc (Below.refl wr.heap.size wr) (.cells #[.int .i64 s.placed, .int .i64 s.broken, .int .i64 s.grown, .int .i64 s.burnt] 29))
                go_loopw [71] (fun iv W => ∃ i : Nat, i ≤ 4 ∧ iv = .int .i64 (i : Int) ∧ Aside0 (∀ j, j < i → inB 0 4611686018427387904 (led s j) = true) ∧ Aside0 (Below wr.heap.size wr W)) (fun iv _ => 4 - (intOf iv).toNat)
                case atStart => exact ⟨0, by omega, rfl, ⟨fun j hj => by omega⟩, ⟨HL.out⟩⟩
                clear c0 c1 c2 c3 c4 c5 c6 c7 c8 c9 c10 c11 c12 c13 c14 c15 c16 c17
                case round =>
                  rename_i w9
                  obtain ⟨i, hi, rfl, ⟨hok⟩, ⟨hb⟩⟩ := hrel
                  have HB4 := Lib.hid hb
                  have HOK4 := Lib.hid hok
                  have HA4 := Lib.hid (HA2.out.below hb HA2.out.lt)
                  clear hb hok
                  by_cases hlt : i < 4
                  · have hd := decide_eq_true (show (i : Int) < 4 by omega)
                    have ix := ixL s i hlt
                    obtain ⟨n, hn⟩ : ∃ n, led s i = n := ⟨_, rfl⟩
                    rw [hn] at ix
                    have HNn := Lib.hid hn
                    have HNF := Lib.hid (fun h : inB 0 4611686018427387904 (led s i) = false => led_not hlt h)
                    clear hn
                    by_cases g1 : n < 0
                    · have d5 := decide_eq_true g1
                      have HF := Lib.hid (HNF.out (by rw [HNn.out]; unfold inB; rw [decide_eq_false (show ¬ 0 ≤ n by omega)]; rfl))
                      go_wp2
                      go_ret
                      exact ⟨by rw [HF.out]; rfl, below_step HB2.out HB4.out⟩
                    · have d5 := decide_eq_false g1
                      by_cases g2 : 4611686018427387904 < n
                      · have d6 := decide_eq_true g2
                        have HF := Lib.hid (HNF.out (by rw [HNn.out]; unfold inB; rw [decide_eq_false (show ¬ n ≤ 4611686018427387904 by omega)]; simp))
                        go_wp2
                        go_ret
                        exact ⟨by rw [HF.out]; rfl, below_step HB2.out HB4.out⟩
                      · have d6 := decide_eq_false g2
                        have HO2 := Lib.hid (show inB 0 4611686018427387904 (led s i) = true by rw [HNn.out]; unfold inB; rw [decide_eq_true (show 0 ≤ n by omega), decide_eq_true (show n ≤ 4611686018427387904 by omega)]; rfl)
                        go_wp2
                        go_roundw
                        case rel => exact ⟨i + 1, by omega, rfl, ⟨fun j hj => by
                          rcases Nat.lt_or_ge j i with h | h
                          · exact HOK4.out j h
                          · obtain rfl : j = i := by omega
                            exact HO2.out⟩, ⟨HB4.out⟩⟩
                        case measure => simp [intOf]; omega
                  · have hd := decide_eq_false (show ¬ (i : Int) < 4 by omega)
                    obtain ⟨c0, c1, c2, c3, c4, c5, c6, c7, c8, c9, c10, c11, c12, c13, c14, c15, c16, c17⟩ := HA4.out.cells
                    have HR := Lib.hid (show superB s = rootB s by
                      have a0 := HOK4.out 0 (by omega)
                      have a1 := HOK4.out 1 (by omega)
                      have a2 := HOK4.out 2 (by omega)
                      have a3 := HOK4.out 3 (by omega)
                      have b0 := HOA.out
                      have b1 := HOB.out
                      simp only [led, anc, if_true, show ((1 : Nat) = 0) = False by simp, show ((2 : Nat) = 0) = False by simp, show ((2 : Nat) = 1) = False by simp, show ((3 : Nat) = 0) = False by simp, show ((3 : Nat) = 1) = False by simp, show ((3 : Nat) = 2) = False by simp, if_false] at a0 a1 a2 a3 b0 b1
                      rw [HD.out, h1, a0, a1, a2, a3, b0, b1, show inB 0 1099511627776 s.now = true by unfold inB; rw [decide_eq_true h2, decide_eq_true h3]; rfl, show inB 0 4611686018427387904 s.saves = true by unfold inB; rw [decide_eq_true h4, decide_eq_true h5]; rfl]
                      rfl)
                    have hs1 : wrap64 (s.sectors - 1) = s.sectors - 1 := by
                      unfold inB at h1
                      simp only [Bool.and_eq_true, decide_eq_true_eq] at h1
                      unfold wrap64
                      omega
                    have HI1 := Lib.hid (fun W => within_calls 1 (s.sectors - 1) s.head W)
                    have HI2 := Lib.hid (fun W => within_calls 1 65536 s.size W)
                    have HB5 := Lib.hid (below_step HB2.out HB4.out)
                    by_cases k1 : s.head = 0 ∧ s.size = 0
                    · have HF := Lib.hid (show superB s = true by rw [HR.out]; unfold rootB; rw [decide_eq_true k1.1, decide_eq_true k1.2]; rfl)
                      obtain ⟨k1, k2⟩ := k1
                      go_wp2
                      go_ret
                      exact ⟨by rw [HF.out]; rfl, HB5.out⟩
                    · have HF := Lib.hid (show superB s = (inB 1 (s.sectors - 1) s.head && inB 1 65536 s.size) by
                        rw [HR.out]; unfold rootB
                        have : (decide (s.head = 0) && decide (s.size = 0)) = false := by simp; omega
                        rw [this]; rfl)
                      have k2 : s.head ≠ 0 ∨ (s.head = 0 ∧ s.size ≠ 0) := by omega
                      clear k1
                      obtain ⟨b1, m1⟩ : ∃ b, inB 1 (s.sectors - 1) s.head = b := ⟨_, rfl⟩
                      obtain ⟨b2, m2⟩ : ∃ b, inB 1 65536 s.size = b := ⟨_, rfl⟩
                      rw [m1] at HI1
                      rw [m2] at HI2
                      rw [m1, m2] at HF
                      clear m1 m2
                      rcases k2 with k1 | ⟨k1, k2⟩
                      all_goals (
                        try rw [k1] at HI1
                        try have k3 : (s.size == 0) = false := beq_eq_false_iff_ne.2 k2
                        go_wp2_with fail
                        refine (HI1.out _).mono ?_; rintro e w5 ⟨rfl, hb5⟩
                        have HB6 := Lib.hid (below_step HB5.out hb5)
                        have HA5 := Lib.hid (HA4.out.below hb5 HA4.out.lt)
                        clear c0 c1 c2 c3 c4 c5 c6 c7 c8 c9 c10 c11 c12 c13 c14 c15 c16 c17 hb5
                        obtain ⟨c0, c1, c2, c3, c4, c5, c6, c7, c8, c9, c10, c11, c12, c13, c14, c15, c16, c17⟩ := HA5.out.cells
                        cases b1 with
                        | false =>
                          go_wp2
                          go_ret
                          exact ⟨by rw [HF.out]; rfl, HB6.out⟩
                        | true =>
                          go_wp2_with fail
                          refine (HI2.out _).mono ?_; rintro e w6 ⟨rfl, hb6⟩
                          have HB7 := Lib.hid (below_step HB6.out hb6)
                          clear hb6
                          go_wp2
                          go_ret
                          exact ⟨by rw [HF.out]; rfl, HB7.out⟩)
end Go.Proofs.YtijjecnmdhefbaaDoor.SP

namespace Go.Proofs.YtijjecnmdhefbaaDoor.SP
open Go.ChangeShapes Go.WideShapes Go.RowKit Go.Joins
set_option linter.unusedVariables false
set_option maxRecDepth 100000
section
variable {H : Type} {enc : TypeId × Value → H} {P : Program} {w : World} {base : Nat} {sp : Nat → Bool} {held : Bool} {n : Nat} {fs : Array Field} {cs : List Value} {xs : List (DataW H × List MemPlace)}
end
structure InS (s : Sup) : Prop where
  seed : s.seed < 18446744073709551616
end Go.Proofs.YtijjecnmdhefbaaDoor.SP

namespace Go.Proofs.YtijjecnmdhefbaaDoor.CK
open Go.RowKit Go.Proofs.YtijjecnmdhefbaaDoorW.PrintWords Go.Proofs.YtijjecnmdhefbaaDoorW.PrintLast Go.Proofs.YtijjecnmdhefbaaDoorW.PrintMore Go.Proofs.YtijjecnmdhefbaaDoor.CD Go.Proofs.YtijjecnmdhefbaaDoor.BR Go.Proofs.YtijjecnmdhefbaaDoor.BP
set_option linter.unusedVariables false
set_option linter.unusedSimpArgs false
def Tab (w : World) : Prop := ∀ i < 16, w.cell? ⟨0, i, none⟩ = some (.int .u32 ((T i : Nat) : Int))
theorem Tab.below {w w' : World} {n : Nat} (h : Tab w) (hb : Below n w w') (hn : 0 < n) : Tab w' := fun i hi => by
  have := h i hi
  rw [hb.cell (by simpa using hn)]; exact this
theorem low_lt (a : Nat) : a % 16 < 16 := Nat.mod_lt _ (by decide)
theorem rd_bytes (l : List Int) (hb : Bytes l) (i : Nat) (hi : i < l.length) : 0 ≤ rd l (i : Int) ∧ rd l (i : Int) < 256 := by
  unfold rd
  rw [Int.toNat_natCast, List.getD_eq_getElem?_getD, List.getElem?_eq_getElem hi]
  have := hb _ (List.getElem_mem hi)
  simpa using this
theorem nib_int (u : Nat) (hu : u < 4294967296) : bits .xor .u32 ((u : Int) / 16) ((T (u % 16) : Nat) : Int) = ((nib u : Nat) : Int) := by
  rw [show (u : Int) / (16 : Int) = ((u >>> 4 : Nat) : Int) by rw [Nat.shiftRight_eq_div_pow]; omega]
  exact i32_xor _ _ (by rw [Nat.shiftRight_eq_div_pow]; omega) (T_lt _ (low_lt u))
theorem sum_next (l : List Int) (t i b : Nat) (hi : i < l.length) (h : rd l (i : Int) = (b : Int)) : sumF t ((l.map Int.toNat).drop i) = sumF (stepB t b) ((l.map Int.toNat).drop (i + 1)) := by
  have hm : i < (l.map Int.toNat).length := by rw [List.length_map]; exact hi
  rw [List.drop_eq_getElem_cons hm, List.getElem_map]
  have : l[i].toNat = b := by
    unfold rd at h
    rw [Int.toNat_natCast, List.getD_eq_getElem?_getD, List.getElem?_eq_getElem hi] at h
    simp at h
    omega
  rw [this]
  rfl
set_option maxHeartbeats 2000000 in
set_option maxRecDepth 100000 in
theorem over_calls (s : Nat) (A : Option Addr) (c : Nat) (l : List Int) (w : World) (hr : ReadsInt w .u8 A l.length l) (hc : l.length ≤ c) (hb : Bytes l) (hl : l.length ≤ 140737488355328) (hs : s < 4294967296) (ht : Tab w) (h0 : 0 < w.heap.size) :
    Calls Tryd.prog 49 #[.int .u32 (s : Int), .slice A l.length c] w fun e w' => e = .returned (.int .u32 ((sumF (s ^^^ 4294967295) (l.map Int.toNat) ^^^ 4294967295 : Nat) : Int)) ∧ Below w.heap.size w w' := by
  have HR := Lib.hid hr
  have HC := Lib.hid hc
  have HB := Lib.hid hb
  have HT := Lib.hid ht
  have H0 := Lib.hid h0
  have hn := i32_not s hs
  have HS := Lib.hid hs
  clear hr hc hb ht h0 hs
  go_enter Tryd.func49, Tryd.ntmps49
  go_wp2
  go_loopw [5, 6] (fun sv iv W => ∃ (i t : Nat), i ≤ l.length ∧ sv = .int .u32 (t : Int) ∧ iv = .int .i64 (i : Int) ∧ Aside0 (t < 4294967296 ∧ sumF (s ^^^ 4294967295) (l.map Int.toNat) = sumF t ((l.map Int.toNat).drop i)) ∧ Aside0 (Below w.heap.size w W)) (fun _ iv _ => l.length - (intOf iv).toNat)
  case atStart => exact ⟨0, s ^^^ 4294967295, by omega, rfl, rfl, ⟨Nat.xor_lt_two_pow (n := 32) HS.out (by decide), rfl⟩, ⟨Below.refl _ _⟩⟩
  case round =>
    obtain ⟨i, t, hi, rfl, rfl, ⟨htt⟩, ⟨hbl⟩⟩ := hrel
    have HTT := Lib.hid htt
    have HBL := Lib.hid hbl
    clear htt hbl hn
    by_cases hlt : i < l.length
    · have hd := decide_eq_true (show (i : Int) < (l.length : Int) by omega)
      have q1 : (0 ≤ (i : Int)) = True := eq_true (by omega)
      have q2 : ((i : Int) < (l.length : Int)) = True := eq_true (by omega)
      obtain ⟨ad, rfl, hc0⟩ := (HR.out.below HBL.out).at_ (i : Int) (by omega) (by omega)
      have hx : 0 ≤ rd l (i : Int) ∧ rd l (i : Int) < 256 := rd_bytes l HB.out i hlt
      have hw : wrap64 ((i : Int) + 1) = ((i + 1 : Nat) : Int) := by unfold wrap64; omega
      obtain ⟨b, hbx⟩ : ∃ b : Nat, rd l (i : Int) = (b : Int) := ⟨(rd l (i : Int)).toNat, by omega⟩
      rw [hbx] at hc0 hx
      rw [Int.toNat_natCast] at hc0
      have hb2 : b < 256 := by omega
      have HBX := Lib.hid hbx
      have w0 : (b : Int) % 4294967296 = (b : Int) := by omega
      have e1 := i32_xor t b HTT.out.1 (by omega)
      have hu : t ^^^ b < 4294967296 := Nat.xor_lt_two_pow (n := 32) HTT.out.1 (by omega)
      obtain ⟨u, hue⟩ : ∃ u, t ^^^ b = u := ⟨_, rfl⟩
      rw [hue] at e1 hu
      have e2 := i32_low u hu
      have e3 : bits .xor .u32 ((u : Int) / 16) ((T (u % 16) : Nat) : Int) = ((nib u : Nat) : Int) := nib_int u hu
      have hv : nib u < 4294967296 := nib_lt u hu
      have hstep : nib (nib u) = stepB t b := by rw [← hue]; rfl
      obtain ⟨v, hve⟩ : ∃ v, nib u = v := ⟨_, rfl⟩
      rw [hve] at e3 hv hstep
      have e5 := i32_low v hv
      have e6 : bits .xor .u32 ((v : Int) / 16) ((T (v % 16) : Nat) : Int) = ((nib v : Nat) : Int) := nib_int v hv
      have e7 := HT.out.below HBL.out H0.out (v % 16) (low_lt v)
      have r3 : (0 ≤ ((v % 16 : Nat) : Int)) = True := eq_true (by omega)
      have r4 : (((v % 16 : Nat) : Int) < 16) = True := eq_true (by omega)
      rw [hstep] at e6
      have HST := Lib.hid (show stepB t b < 4294967296 from stepB_lt t b HTT.out.1 hb2)
      obtain ⟨y, hy⟩ : ∃ y, stepB t b = y := ⟨_, rfl⟩
      rw [hy] at e6 HST
      have HY := Lib.hid hy
      clear hx hbx hu hue hv hve hstep hy hb2
      have e4 := HT.out.below HBL.out H0.out (u % 16) (low_lt u)
      have r1 : (0 ≤ ((u % 16 : Nat) : Int)) = True := eq_true (by omega)
      have r2 : (((u % 16 : Nat) : Int) < 16) = True := eq_true (by omega)
      go_wp2_with fail
      go_roundw
      case rel =>
        refine ⟨i + 1, y, by omega, rfl, rfl, ⟨HST.out, ?_⟩, ⟨HBL.out⟩⟩
        rw [HTT.out.2, ← HY.out]
        exact sum_next l t i b hlt HBX.out
      case measure => simp [intOf]; omega
    · have hd := decide_eq_false (show ¬ (i : Int) < (l.length : Int) by omega)
      have hn2 := i32_not t HTT.out.1
      go_wp2
      go_ret
      refine ⟨?_, HBL.out⟩
      rw [HTT.out.2, List.drop_of_length_le (by rw [List.length_map]; omega)]
      rfl
theorem sum_calls (A : Option Addr) (c : Nat) (l : List Int) (w : World) (hr : ReadsInt w .u8 A l.length l) (hc : l.length ≤ c) (hb : Bytes l) (hl : l.length ≤ 140737488355328) (ht : Tab w) (h0 : 0 < w.heap.size) :
    Calls Tryd.prog 22 #[.slice A l.length c] w fun e w' => e = .returned (.int .u32 ((SP.sumI l : Nat) : Int)) ∧ Below w.heap.size w w' := by
  have HO := Lib.hid (fun W (h : Below w.heap.size w W) => over_calls 0 A c l W (hr.below h) hc hb hl (by decide) (ht.below h h0) (by have := h.size; omega))
  have HW := Lib.hid (Below.refl w.heap.size w)
  clear hr hc hb hl ht h0
  go_enter Tryd.func22, Tryd.ntmps22
  go_wp2_with fail
  refine (HO.out _ (by first | exact HW.out | exact below_drew HW.out)).mono ?_; rintro e w1 ⟨rfl, hb1⟩
  have HB1 := Lib.hid (below_step HW.out hb1)
  clear hb1
  go_wp2
  go_ret
  exact ⟨rfl, HB1.out⟩
end Go.Proofs.YtijjecnmdhefbaaDoor.CK

namespace Go.Proofs.YtijjecnmdhefbaaDoor.BP
open Go.RowKit Go.Proofs.YtijjecnmdhefbaaDoorW.PrintWords Go.Proofs.YtijjecnmdhefbaaDoorW.PrintLast Go.Proofs.YtijjecnmdhefbaaDoorW.PrintMore Go.Proofs.YtijjecnmdhefbaaDoor.CD Go.Proofs.YtijjecnmdhefbaaDoor.BR
set_option linter.unusedVariables false
set_option linter.unusedSimpArgs false
abbrev bw (W : World) (t : ByteArray) : World := Lib.bytesWorld W 5 t
theorem bytes_run (t : ByteArray) (W : World) : (convert 9 41 (.string t)).run Tryd.prog W = .ok (.slice (some ⟨W.heap.size, 0, none⟩) t.size (grownCap W t.size 0 5)) (bw W t) := print_bytes (P := Tryd.prog) 9 41 5 Tryd.underlying9 Tryd.underlying41 Tryd.underlying5 t W
theorem bw_below (W : World) (t : ByteArray) : Below W.heap.size W (bw W t) := bytes_below (Below.refl _ _) (Nat.le_refl _) 5 t
theorem bw_reads (W : World) (t : ByteArray) (ht : t.size ≤ 9223372036854775807) : ReadsInt (bw W t) .u8 (some ⟨W.heap.size, 0, none⟩) (bytesOf t).length (bytesOf t) := by
  rw [bytesOf_length]; exact bytes_reads W 5 t ht
theorem xorA (a : Nat) (ha : a < 18446744073709551616) : bits .xor .u64 (a : Int) 0 = (a : Int) := by
  have ha' : a % 2 ^ IntKind.u64.bits = a := Nat.mod_eq_of_lt (by simp only [IntKind.bits]; omega)
  simp only [bits, BitVec.ofInt_natCast, show BitVec.ofInt IntKind.u64.bits 0 = 0#_ from rfl, BitVec.xor_zero, BitVec.toNat_ofNat, ha']
  exact CF.wu64_id _ (by omega) (by omega)
theorem xorB (a : Nat) (ha : a < 18446744073709551616) : bits .xor .u64 (a : Int) 18446744073709551615 = 18446744073709551615 - (a : Int) := by
  have ha' : a % 2 ^ 64 = a := Nat.mod_eq_of_lt (by omega)
  have h1 : BitVec.ofInt 64 18446744073709551615 = BitVec.allOnes 64 := by decide
  show IntKind.u64.wrap ((BitVec.ofInt 64 (a : Int) ^^^ BitVec.ofInt 64 18446744073709551615).toNat : Int) = _
  rw [h1, BitVec.ofInt_natCast, BitVec.xor_allOnes, BitVec.toNat_not, BitVec.toNat_ofNat, ha']
  have : IntKind.u64.wrap ((2 ^ 64 - 1 - a : Nat) : Int) = ((2 ^ 64 - 1 - a : Nat) : Int) := CF.wu64_id _ (by omega) (by omega)
  rw [this]
  omega
theorem zig_eq (i : Int) (h : -9223372036854775808 ≤ i ∧ i < 9223372036854775808) : Go.bits .xor .u64 (IntKind.u64.wrap ((IntKind.u64.wrap i) * 2)) (IntKind.u64.wrap (i / 9223372036854775808)) = (zig i : Int) := by
  unfold zig
  by_cases h0 : 0 ≤ i
  · rw [if_pos h0]
    have e1 : IntKind.u64.wrap ((IntKind.u64.wrap i) * 2) = (((2 * i).toNat : Nat) : Int) := by rw [CF.wu64, CF.wu64]; omega
    have e2 : IntKind.u64.wrap (i / 9223372036854775808) = 0 := by rw [CF.wu64]; omega
    rw [e1, e2, xorA _ (by omega)]
  · rw [if_neg h0]
    have e1 : IntKind.u64.wrap ((IntKind.u64.wrap i) * 2) = (((18446744073709551616 + 2 * i).toNat : Nat) : Int) := by rw [CF.wu64, CF.wu64]; omega
    have e2 : IntKind.u64.wrap (i / 9223372036854775808) = 18446744073709551615 := by rw [CF.wu64]; omega
    rw [e1, e2, xorB _ (by omega)]
    omega
theorem putInt_calls (A : Option Addr) (c : Nat) (l : List Int) (i : Int) (w : World) (hr : ReadsInt w .u8 A l.length l) (hc : l.length ≤ c) (hi : -9223372036854775808 ≤ i ∧ i < 9223372036854775808) (hl : l.length < 140737488355000) :
    Calls Tryd.prog 19 #[.slice A l.length c, .int .i64 i] w fun e w' => ∃ v, e = .returned v ∧ OB w' w.heap.size v (l ++ num (zig i)) ∧ Below w.heap.size w w' := by
  have hf : PRegionKnown.bytes_PutInt.f 12 l i = some (l ++ num (zig i)) := by
    unfold PRegionKnown.bytes_PutInt.f
    rw [zig_eq i hi]
    have h2 : PRegionKnown.bytes_Put.f 12 l (zig i : Int) = some (l ++ num (zig i)) := CF.put_f (zig i) l (zig_lt i hi) hl
    rw [h2]
    rfl
  exact (PRegionKnown.bytes_PutInt.calls 12 A c l i _ w (Kd.C_of_reads (d := (0 : Int)) (h1 := fun _ => rfl) hr) hc hf).mono fun e w' ⟨v, he, hR, hb⟩ => ⟨v, he, OB.of_R hR, hb⟩
end Go.Proofs.YtijjecnmdhefbaaDoor.BP

namespace Go.Proofs.YtijjecnmdhefbaaDoor.CR
open Go.RowKit Go.Proofs.YtijjecnmdhefbaaDoorW.PrintWords Go.Proofs.YtijjecnmdhefbaaDoorW.PrintLast Go.Proofs.YtijjecnmdhefbaaDoorW.PrintMore Go.Proofs.YtijjecnmdhefbaaDoor.CD Go.Proofs.YtijjecnmdhefbaaDoor.BR
set_option linter.unusedVariables false
set_option linter.unusedSimpArgs false

theorem ob_of {P : Type} {f : Nat} {args : Array Value} {w : World} {r : List Int} (h : Calls Tryd.prog f args w fun e w' => ∃ v0_ : Value, e = .returned v0_ ∧ Kd.R (Kd.int .u8) 5 w' w.heap.size (fun _ => True) v0_ r ∧ Below w.heap.size w w') :
    Calls Tryd.prog f args w fun e w' => ∃ v, e = .returned v ∧ OB w' w.heap.size v r ∧ Below w.heap.size w w' := h.mono fun e w' ⟨v, he, hR, hb⟩ => ⟨v, he, OB.of_R hR, hb⟩
theorem fixed_l0 : ∀ (d j w i n : Nat) (x : List Int), d = w - i → i ≤ w → w ≤ 100 → x.length + d < 140737488355328 → d < j → PRegionKnown.bytes_PutFixed.l0 j (n : Int) x (w : Int) (i : Int) = some (x ++ fixed d n)
  | 0, j, w, i, n, x, hd, hi, hw, hx, hj => by
    obtain ⟨j, rfl⟩ : ∃ m, j = m + 1 := ⟨j - 1, by omega⟩
    simp only [PRegionKnown.bytes_PutFixed.l0, fixed]
    rw [if_neg (by omega), List.append_nil]
  | d + 1, j, w, i, n, x, hd, hi, hw, hx, hj => by
    obtain ⟨j, rfl⟩ : ∃ m, j = m + 1 := ⟨j - 1, by omega⟩
    simp only [PRegionKnown.bytes_PutFixed.l0, fixed]
    rw [if_pos (by omega), if_pos (by omega), show wrap64 ((i : Int) + 1) = ((i + 1 : Nat) : Int) by unfold wrap64; omega, show ((n : Int) / 256) = ((n / 256 : Nat) : Int) by omega, show ((n : Int) % 256) = ((n % 256 : Nat) : Int) by omega]
    rw [fixed_l0 d j w (i + 1) (n / 256) _ (by omega) (by omega) hw (by simp; omega) (by omega)]
    simp
def fixW (n : Nat) (width : Int) : List Int := if width < 1 ∨ width > 8 then [] else fixed width.toNat n
theorem putFixed_f (n : Nat) (l : List Int) (width : Int) (hl : l.length < 140737488355000) : PRegionKnown.bytes_PutFixed.f 12 l (n : Int) width = some (l ++ fixW n width) := by
  unfold PRegionKnown.bytes_PutFixed.f fixW
  simp only [Option.bind_some, List.length_nil, Nat.zero_add, List.nil_append]
  rw [if_pos (by omega)]
  by_cases h1 : width < 1
  · rw [if_pos h1, if_pos (.inl h1)]
    simp only [PRegionKnown.bytes_PutFixed.j0, if_true, List.append_nil]
  · rw [if_neg h1]
    by_cases h8 : width > 8
    · rw [if_pos (.inr h8), decide_eq_true h8]
      simp only [PRegionKnown.bytes_PutFixed.j0, if_true, List.append_nil]
    · rw [if_neg (by omega), decide_eq_false h8]
      simp only [PRegionKnown.bytes_PutFixed.j0, Bool.false_eq_true, if_false]
      have := fixed_l0 width.toNat 11 width.toNat 0 n l (by omega) (by omega) (by omega) (by omega) (by omega)
      rw [show ((width.toNat : Nat) : Int) = width by omega] at this
      exact this
theorem putFixed_calls (A : Option Addr) (c : Nat) (l : List Int) (n : Nat) (width : Int) (w : World) (hr : ReadsInt w .u8 A l.length l) (hc : l.length ≤ c) (hl : l.length < 140737488355000) :
    Calls Tryd.prog 21 #[.slice A l.length c, .int .u64 (n : Int), .int .i64 width] w fun e w' => ∃ v, e = .returned v ∧ OB w' w.heap.size v (l ++ fixW n width) ∧ Below w.heap.size w w' :=
  ob_of (P := Unit) (PRegionKnown.bytes_PutFixed.calls 12 A c l (n : Int) width _ w (Kd.C_of_reads (d := (0 : Int)) (h1 := fun _ => rfl) hr) hc (putFixed_f n l width hl))
end Go.Proofs.YtijjecnmdhefbaaDoor.CR

namespace Go.Proofs.YtijjecnmdhefbaaDoor.SP
open Go.RowKit Go.Proofs.YtijjecnmdhefbaaDoorW.PrintWords Go.Proofs.YtijjecnmdhefbaaDoorW.PrintLast Go.Proofs.YtijjecnmdhefbaaDoorW.PrintMore Go.Proofs.YtijjecnmdhefbaaDoor.CD Go.Proofs.YtijjecnmdhefbaaDoor.BR Go.Proofs.YtijjecnmdhefbaaDoor.BP
set_option linter.unusedVariables false
set_option linter.unusedSimpArgs false
set_option maxRecDepth 100000
structure Buf (W : World) (base B : Nat) (L : List Int) (A : Option Addr) (c : Nat) (o : Bool) : Prop where
  cell : W.heap[B]? = some (.cells #[.slice A L.length c] 41 (0, 0))
  room : L.length ≤ c
  reads : ReadsInt W .u8 A L.length L
  own : o = true → OB W base (.slice A L.length c) L
theorem Buf.lt {W : World} {base B c : Nat} {L : List Int} {A : Option Addr} {o : Bool} (h : Buf W base B L A c o) : B < W.heap.size := blk_lt h.cell
theorem Buf.below {W W' : World} {base B c : Nat} {L : List Int} {A : Option Addr} {o : Bool} (h : Buf W base B L A c o) (hb : Below W.heap.size W W') : Buf W' base B L A c o :=
  ⟨blk_below h.cell hb, h.room, h.reads.below hb, fun e => (h.own e).below hb⟩
theorem Buf.put {W W' : World} {base B c c' : Nat} {L L' : List Int} {A A' : Option Addr} {o : Bool} (h : Buf W base B L A c o) (hb : Below W.heap.size W W') (hbase : base ≤ W.heap.size) (ho : OB W' W.heap.size (.slice A' L'.length c') L') (hc : L'.length ≤ c') :
    Buf (W'.setCell ⟨B, 0, none⟩ (.slice A' L'.length c')) base B L' A' c' true := by
  have hne : (Value.slice A' L'.length c').ownBlock ≠ some B := fun e => by
    have := World.ownsRow.lt ho B e
    have := h.lt
    omega
  have k : OB (W'.setCell ⟨B, 0, none⟩ (.slice A' L'.length c')) base (.slice A' L'.length c') L' := RG.OB.base' (OB.grown ho (gset (World.grownBy.refl W' _) 0 _) hne) hbase
  exact ⟨by rw [blk_set (blk_below h.cell hb)]; rfl, hc, k.reads, fun _ => k⟩
theorem nums_append (l m : List Int) : nums (l ++ m) = nums l ++ nums m := by unfold nums; simp
theorem nums_take (xs : List Int) (j : Nat) (h : j < xs.length) : nums (xs.take (j + 1)) = nums (xs.take j) ++ num xs[j].toNat := by
  rw [List.take_add_one, List.getElem?_eq_getElem h, Option.toList_some, nums_append]
  unfold nums
  simp
theorem nums_le' (xs : List Int) : (nums xs).length ≤ 10 * xs.length := nums_le xs
set_option maxHeartbeats 2000000 in
theorem putAll_calls (base B : Nat) (L : List Int) (A0 : Option Addr) (c0 : Nat) (xs : List Int) (A : Option Addr) (c : Nat) (w : World) {o : Bool} (h : Buf w base B L A0 c0 o) (hx : ReadsInt w .u64 A xs.length xs) (hr : ∀ x ∈ xs, 0 ≤ x ∧ x < 18446744073709551616)
    (hL : L.length + 10 * xs.length < 140737488355000) (hB : ∀ ad, A = some ad → 0 < xs.length → ad.block ≠ B) (hbase : base ≤ w.heap.size) :
    Calls Tryd.prog 17 #[.slice A xs.length c, .pointer (some ⟨B, 0, none⟩)] w fun e w' => e = .returned (.tuple #[]) ∧ (∃ A' c', Buf w' base B (L ++ nums xs) A' c' (o || decide (0 < xs.length))) ∧ w.grownBy w' (some B) := by
  have H := Lib.hid h
  have HX := Lib.hid hx
  have HR := Lib.hid hr
  have HB := Lib.hid hB
  have HBa := Lib.hid hbase
  clear h hx hr hB hbase
  go_enter Tryd.func17, Tryd.ntmps17
  go_wp2
  go_loopw [7] (fun iv W => ∃ i : Nat, i ≤ xs.length ∧ iv = .int .i64 (i : Int) ∧ Aside0 (∃ A' c', Buf W base B (L ++ nums (xs.take i)) A' c' (o || decide (0 < i))) ∧ Aside0 (w.grownBy W (some B))) (fun iv _ => xs.length - (intOf iv).toNat)
  case atStart => exact ⟨0, by omega, rfl, ⟨A0, c0, by rw [List.take_zero]; unfold nums; simpa using H.out⟩, ⟨World.grownBy.refl _ _⟩⟩
  case round =>
    obtain ⟨i, hi, rfl, ⟨A', c', hbuf⟩, ⟨hg⟩⟩ := hrel
    have HBu := Lib.hid hbuf
    have HG := Lib.hid hg
    clear hbuf hg
    by_cases hlt : i < xs.length
    · have hd := decide_eq_true (show (i : Int) < (xs.length : Int) by omega)
      have q1 : (0 ≤ (i : Int)) = True := eq_true (by omega)
      have q2 : ((i : Int) < (xs.length : Int)) = True := eq_true (by omega)
      obtain ⟨ad, rfl, hc0⟩ := (reads_grown HX.out HG.out HB.out).at_ (i : Int) (by omega) (by omega)
      have hrd : rd xs (i : Int) = xs[i] := by
        unfold rd
        rw [Int.toNat_natCast, List.getD_eq_getElem?_getD, List.getElem?_eq_getElem hlt]; rfl
      have hxr := HR.out xs[i] (List.getElem_mem hlt)
      obtain ⟨n, hn⟩ : ∃ n : Nat, xs[i] = (n : Int) := ⟨xs[i].toNat, by omega⟩
      rw [hrd, hn, Int.toNat_natCast] at hc0
      rw [hn] at hxr
      have hw : wrap64 ((i : Int) + 1) = ((i + 1 : Nat) : Int) := by unfold wrap64; omega
      have HT := Lib.hid (show L ++ nums (xs.take (i + 1)) = (L ++ nums (xs.take i)) ++ num n by rw [nums_take xs i hlt, hn, Int.toNat_natCast, List.append_assoc])
      have hle : (L ++ nums (xs.take i)).length < 140737488355000 := by
        have := nums_le' (xs.take i)
        rw [List.length_append]
        rw [List.length_take] at this
        omega
      obtain ⟨M, hM⟩ : ∃ M, L ++ nums (xs.take i) = M := ⟨_, rfl⟩
      rw [hM] at HBu HT hle
      have b0 := blk_cell HBu.out.cell 0
      have f0 := blk_frozen HBu.out.cell 0
      simp only [List.getElem?_toArray, List.getElem?_cons_succ, List.getElem?_cons_zero] at b0
      have HP := Lib.hid (put_calls A' c' M n wr HBu.out.reads HBu.out.room (by omega) hle)
      clear hrd hxr hn hle hM
      go_wp2_with fail
      refine HP.out.mono ?_; rintro e w3 ⟨v, rfl, ho, hb3⟩
      obtain ⟨A3, c3, rfl, hc3, hr3⟩ := ho.slice
      have HO3 := Lib.hid ho
      have HC3 := Lib.hid hc3
      have HB3 := Lib.hid hb3
      have Hb3 := Lib.hid (blk_below HBu.out.cell hb3)
      have b0 := blk_cell Hb3.out 0
      have f0 := blk_frozen Hb3.out 0
      simp only [List.getElem?_toArray, List.getElem?_cons_succ, List.getElem?_cons_zero] at b0
      clear ho hc3 hr3 hb3
      go_wp2_with fail
      go_roundw
      case rel => exact ⟨i + 1, by omega, rfl, ⟨A3, c3, by rw [HT.out, ← List.length_append, decide_eq_true (show 0 < i + 1 by omega), Bool.or_true]; exact HBu.out.put HB3.out (Nat.le_trans HBa.out HG.out.size) HO3.out HC3.out⟩, ⟨gtrans (gbelow HG.out HB3.out) (gset (World.grownBy.refl _ _) 0 _)⟩⟩
      case measure => simp [intOf]; omega
    · have hd := decide_eq_false (show ¬ (i : Int) < (xs.length : Int) by omega)
      go_wp2
      go_end0
      exact ⟨rfl, ⟨A', c', by rw [List.take_of_length_le (by omega), show i = xs.length by omega] at HBu; exact HBu.out⟩, HG.out⟩
section
variable {ops : Array Oper} {o : Oper} {a : Act} {Q : Exit → Act → World → Prop} {K : Act → World → Prop}
theorem ob_str {w : World} {base : Nat} {v : Value} {xs : List Int} {y : ByteArray} : OB w base v (xs ++ bytesOf y) ↔ w.ownsRow base 5 1 v (xs.length + y.size) (YtijjecnmdhefbaaDoorW.PrintWords.nums .u8 xs ++ Lib.strCells y) := by
  unfold OB
  rw [List.length_append, bytesOf_length, YtijjecnmdhefbaaDoorW.PrintWords.nums_append]
  have : YtijjecnmdhefbaaDoorW.PrintWords.nums .u8 (bytesOf y) = Lib.strCells y := by simp [YtijjecnmdhefbaaDoorW.PrintWords.nums, bytesOf, Lib.strCells]
  rw [this]
theorem step_append_str {w0 W : World} (base : Nat) (hw : Region.wanted o (yielded ops a.tmps) = true) (s x : Operand) (t u : TypeId)
    (ho : o.op = .call { callee := .builtin .append, args := #[s, x], argTypes := #[t, u] })
    (ht : Tryd.prog.underlying t = some (.slice 5)) (hu : Tryd.prog.underlying u = some .string) (hinfo : (Tryd.prog.info? 5).map (fun i => (i.zero, i.size, i.bytes)) = some (some (.int .u8 0), 1, 1))
    (v : Value) (xs : List Int) (y : ByteArray) (hs : a.eval s = v) (hx : a.eval x = .string y)
    (HO : OB W base v xs) (HB : Below base w0 W) (hbase : base ≤ W.heap.size) (hl : xs.length + y.size ≤ 140737488355328)
    (h : ∀ v1 w1, OB w1 base v1 (xs ++ bytesOf y) → Below base w0 w1 → W.grownBy w1 v.ownBlock → K (a.put o.dst v1) w1) :
    if Region.wanted o (yielded ops a.tmps) = true then Oper.wp Tryd.prog o a W K Q else K (a.put o.dst undef) W := by
  obtain ⟨i0, hi, hzz⟩ := Option.map_eq_some_iff.1 hinfo
  simp only [Prod.mk.injEq] at hzz
  obtain ⟨hz0, hz1, hz2⟩ := hzz
  rw [if_pos hw]
  obtain ⟨v1, w1, hr, hown, hg, _⟩ := Lib.run_append_own_string (P := Tryd.prog) (w := W) base t u o.type 5 i0 ht hu hi hz0 hz1 hz2 v xs.length _ HO y (by simp only [maxLen]; omega) hl hbase
  unfold Oper.wp execOp
  simp only [ho, resolve, invoke, builtin, Sem.run_bind, Sem.run_pure, Result.andThen_ok, List.map_toArray, List.map_cons, List.map_nil, hs, hx, hr]
  exact h v1 w1 (ob_str.2 hown) (HB.grown hg hbase (own_base HO)) hg
end
end Go.Proofs.YtijjecnmdhefbaaDoor.SP

namespace Go.Proofs.YtijjecnmdhefbaaDoor.SP
open Go.RowKit Go.Proofs.YtijjecnmdhefbaaDoorW.PrintWords Go.Proofs.YtijjecnmdhefbaaDoorW.PrintLast Go.Proofs.YtijjecnmdhefbaaDoorW.PrintMore Go.Proofs.YtijjecnmdhefbaaDoor.CD Go.Proofs.YtijjecnmdhefbaaDoor.BR Go.Proofs.YtijjecnmdhefbaaDoor.BP
set_option linter.unusedVariables false
set_option linter.unusedSimpArgs false
set_option maxRecDepth 100000
def Puts (s : Sup) (w : World) (e : Ending) (w' : World) : Prop :=
  (if superB s then e = .returned (.tuple #[.string (strOfNums (putS s)), .int .i64 0]) else e = .returned (.tuple #[.string ByteArray.empty, .int .i64 2])) ∧ Below w.heap.size w w'
abbrev magicC : Array Value := #[.int .u8 66, .int .u8 69, .int .u8 68, .int .u8 82, .int .u8 79, .int .u8 67, .int .u8 75, .int .u8 49]
theorem conv_magic (W : World) : (convert 41 41 (.slice (some ⟨W.heap.size, 0, none⟩) 8 8)).run Tryd.prog (W.alloc (.cells #[.int .u8 66, .int .u8 69, .int .u8 68, .int .u8 82, .int .u8 79, .int .u8 67, .int .u8 75, .int .u8 49] 5)) = .ok (.slice (some ⟨W.heap.size, 0, none⟩) 8 8) (W.alloc (.cells magicC 5 (8, 9))) :=
  Lib.run_convert_bytes_const W 41 5 magicC 8 8 Tryd.underlying41 Tryd.underlying5
theorem magic_reads (W : World) : ReadsInt (W.alloc (.cells magicC 5 (8, 9))) .u8 (some ⟨W.heap.size, 0, none⟩) 8 magic :=
  ⟨rfl, by decide, fun _ => ⟨_, rfl, fun j hj => by
    have h := blk_new W (.cells magicC 5 (8, 9))
    have k := cell_of_row _ W.heap.size j magicC 5 (8, 9) h
    match j, hj with
    | 0, _ => exact k
    | 1, _ => exact k
    | 2, _ => exact k
    | 3, _ => exact k
    | 4, _ => exact k
    | 5, _ => exact k
    | 6, _ => exact k
    | 7, _ => exact k⟩⟩
theorem conv_str {A : Option Addr} {c : Nat} {l : List Int} {W : World} (hr : ReadsInt W .u8 A l.length l) : (convert 41 9 (.slice A l.length c)).run Tryd.prog W = .ok (.string (strOfNums l)) W :=
  string_of_reads (c := c) (src := 41) Tryd.underlying41 Tryd.underlying5 Tryd.underlying9 hr
structure PS (w W : World) (s : Sup) (g B : Nat) (L : List Int) (A : Option Addr) (c : Nat) (o : Bool) : Prop where
  buf : Buf W w.heap.size B L A c o
  sup : SupAt W g s
  below : Below w.heap.size w W
  g0 : w.heap.size ≤ g
  gB : g < B
theorem PS.under {w W W' : World} {s : Sup} {g B c : Nat} {L : List Int} {A : Option Addr} {o : Bool} (h : PS w W s g B L A c o) (hb : Below W.heap.size W W') : PS w W' s g B L A c o :=
  ⟨h.buf.below hb, h.sup.below hb h.sup.lt, below_step h.below hb, h.g0, h.gB⟩
theorem PS.call {w W W' : World} {s : Sup} {g B c c' : Nat} {L L' : List Int} {A A' : Option Addr} {o o' : Bool} (h : PS w W s g B L A c o) (hb : Buf W' w.heap.size B L' A' c' o') (hg : W.grownBy W' (some B)) : PS w W' s g B L' A' c' o' :=
  ⟨hb, blk_grown h.sup hg (fun e => by have := h.gB; injection e with e; omega), belowg h.below hg h.below.size (by have := h.gB; have := h.g0; omega), h.g0, h.gB⟩
theorem PS.put {w W W' : World} {s : Sup} {g B c c' : Nat} {L L' : List Int} {A A' : Option Addr} {o : Bool} (h : PS w W s g B L A c o) (hb : Below W.heap.size W W') (ho : OB W' W.heap.size (.slice A' L'.length c') L') (hc : L'.length ≤ c') :
    PS w (W'.setCell ⟨B, 0, none⟩ (.slice A' L'.length c')) s g B L' A' c' true :=
  h.call (h.buf.put hb h.below.size ho hc) (gset (gofBelow hb) 0 _)
theorem lit64 (W : World) (xs : List Int) (h : xs.length ≤ 1000) : ReadsInt (W.alloc (.cells (xs.map fun n => Value.int .u64 n).toArray 22)) .u64 (some ⟨W.heap.size, 0, none⟩) xs.length xs :=
  own_reads' (n := xs.length) (own_lit W W.heap.size 22 .u64 xs (Nat.le_refl _) (by omega))
def ancs (s : Sup) (i : Nat) : List Int := if i = 0 then [] else if i = 1 then ancB s.a else ancB s.a ++ ancB s.b
theorem ancs_next (s : Sup) (i : Nat) (h : i < 2) : ancs s (i + 1) = ancs s i ++ ancB (anc s i) := by
  match i, h with
  | 0, _ => rfl
  | 1, _ => rfl
theorem ancs_le (s : Sup) (i : Nat) : (ancs s i).length ≤ 80 := by
  have h1 := ancB_le s.a
  have h2 := ancB_le s.b
  unfold ancs
  split
  · simp
  · split
    · omega
    · rw [List.length_append]; omega
def head3 (s : Sup) : List Int := magic ++ nums [s.sectors, (s.seed : Int), s.now]
theorem head3_le (s : Sup) : (head3 s).length ≤ 38 := by
  unfold head3
  have := nums_le [s.sectors, (s.seed : Int), s.now]
  rw [List.length_append]
  simp only [magic, List.length_cons, List.length_nil] at this ⊢
  omega
theorem body_parts (s : Sup) : body s = head3 s ++ ancs s 2 ++ nums [s.placed, s.broken, s.grown, s.burnt, s.head, s.size, s.saves] := by
  unfold body head3 ancs nums
  simp
theorem ranges3 (s : Sup) (h : Ok lims s) : ∀ x ∈ [s.sectors, (s.seed : Int), s.now], 0 ≤ x ∧ x < 18446744073709551616 := by
  intro x hx
  have h1 := h.sectors
  have h2 := h.now
  have h3 := h.seed
  simp only [lims] at h1 h2
  simp only [List.mem_cons, List.not_mem_nil, or_false] at hx
  rcases hx with rfl | rfl | rfl <;> omega
theorem ranges7 (s : Sup) (h : Ok lims s) : ∀ x ∈ [s.placed, s.broken, s.grown, s.burnt, s.head, s.size, s.saves], 0 ≤ x ∧ x < 18446744073709551616 := by
  intro x hx
  have h1 := h.sectors
  have h2 := h.placed
  have h3 := h.broken
  have h4 := h.grown
  have h5 := h.burnt
  have h6 := h.root
  have h7 := h.saves
  simp only [lims] at h1 h6
  simp only [List.mem_cons, List.not_mem_nil, or_false] at hx
  rcases hx with rfl | rfl | rfl | rfl | rfl | rfl | rfl <;> omega
theorem wraps7 (s : Sup) (h : Ok lims s) : IntKind.u64.wrap s.placed = s.placed ∧ IntKind.u64.wrap s.broken = s.broken ∧ IntKind.u64.wrap s.grown = s.grown ∧ IntKind.u64.wrap s.burnt = s.burnt ∧ IntKind.u64.wrap s.head = s.head ∧ IntKind.u64.wrap s.size = s.size ∧ IntKind.u64.wrap s.saves = s.saves := by
  have k := ranges7 s h
  refine ⟨CF.wu64_id _ (k _ (by simp)).1 (k _ (by simp)).2, CF.wu64_id _ (k _ (by simp)).1 (k _ (by simp)).2, CF.wu64_id _ (k _ (by simp)).1 (k _ (by simp)).2, CF.wu64_id _ (k _ (by simp)).1 (k _ (by simp)).2, CF.wu64_id _ (k _ (by simp)).1 (k _ (by simp)).2, CF.wu64_id _ (k _ (by simp)).1 (k _ (by simp)).2, CF.wu64_id _ (k _ (by simp)).1 (k _ (by simp)).2⟩
theorem repeat_one (b : UInt8) : ∀ n, Lib.repeatL [b] n = List.replicate n b
  | 0 => rfl
  | n + 1 => by rw [Lib.repeatL, repeat_one b n]; rfl
theorem rep_bytes (n : Nat) {Z : ByteArray} (h : (⟨(Lib.repeatL (⟨#[0]⟩ : ByteArray).data.toList n).toArray⟩ : ByteArray) = Z) : Z.size = n ∧ bytesOf Z = List.replicate n 0 := by
  subst h
  have e : Lib.repeatL (⟨#[0]⟩ : ByteArray).data.toList n = List.replicate n 0 := repeat_one 0 n
  rw [e]
  constructor
  · simp [ByteArray.size]
  · simp [bytesOf]
theorem put_fixed (s : Sup) : data s ++ CR.fixW (sumI (data s)) 4 = putS s := by
  have : ∀ n, CR.fixW n 4 = fixed 4 n := fun n => by unfold CR.fixW; rw [if_neg (by decide)]; rfl
  rw [this]
  rfl
set_option maxHeartbeats 8000000 in
theorem putSuper_calls (s : Sup) (w : World) (hs : s.seed < 18446744073709551616) (ht : CK.Tab w) (h0 : 0 < w.heap.size) :
    Calls Tryd.prog 6 #[.agg (supC s).toArray] w fun e w' => Puts s w e w' := by
  have HT := Lib.hid ht
  have H0 := Lib.hid h0
  have HS := Lib.hid hs
  have HC := Lib.hid (fun W => super_calls s W)
  clear ht h0 hs
  go_enter Tryd.func6, Tryd.ntmps6
  have HA := Lib.hid (SupAt.new w s)
  have HBa := Lib.hid (below_alloc (Below.refl w.heap.size w) (.cells (supC s).toArray 33))
  go_wp2_with (refine wpList_load_mid rfl 33 (.tmp 1) rfl w.heap.size 0 rfl (supC s) _ (sup_range HA.out) Tryd.underlying33 rfl sup_info ?_)
  refine (HC.out _).mono ?_; rintro e w1 ⟨rfl, hb1⟩
  have HB1 := Lib.hid (below_step HBa.out hb1)
  have HA1 := Lib.hid (HA.out.below hb1 HA.out.lt)
  clear hb1
  cases hq : superB s with
  | false =>
    have HQ := Lib.hid hq
    go_wp2
    go_ret2
    exact ⟨by rw [HQ.out]; rfl, HB1.out⟩
  | true =>
    have HQ := Lib.hid hq
    have HK := Lib.hid ((superB_iff s HS.out).1 hq)
    have hcv := conv_magic w1
    go_upto_region 5 with fail
    have HP : Hid (PS w ((w1.alloc (.cells magicC 5 (8, 9))).alloc (.cells #[.slice (some ⟨w1.heap.size, 0, none⟩) 8 8] 41)) s w.heap.size (w1.heap.size + 1) magic (some ⟨w1.heap.size, 0, none⟩) 8 false) := Lib.hid (by
      have hsz := HB1.out.size
      have hlt := HA1.out.lt
      have hal := below_alloc (Below.refl w1.heap.size w1) (.cells magicC 5 (8, 9))
      have hal2 := below_alloc hal (.cells #[.slice (some ⟨w1.heap.size, 0, none⟩) 8 8] 41)
      refine ⟨⟨?_, Nat.le_refl _, ?_, fun e => by cases e⟩, HA1.out.below hal2 hlt, below_step HB1.out hal2, Nat.le_refl _, by omega⟩
      · have := blk_new (w1.alloc (.cells magicC 5 (8, 9))) (.cells #[.slice (some ⟨w1.heap.size, 0, none⟩) 8 8] 41)
        rw [World.size_alloc] at this
        exact this
      · exact (magic_reads w1).below (below_alloc (Below.refl _ _) _))
    obtain ⟨W2, hW2⟩ : ∃ W, (w1.alloc (.cells magicC 5 (8, 9))).alloc (.cells #[.slice (some ⟨w1.heap.size, 0, none⟩) 8 8] 41) = W := ⟨_, rfl⟩
    obtain ⟨B, hB⟩ : ∃ B, w1.heap.size + 1 = B := ⟨_, rfl⟩
    rw [hW2, hB] at HP
    rw [hW2, hB]
    obtain ⟨A2, hA2⟩ : ∃ A, some (⟨w1.heap.size, 0, none⟩ : Addr) = A := ⟨_, rfl⟩
    rw [hA2] at HP
    have x1 : IntKind.u64.wrap s.sectors = s.sectors := CF.wu64_id _ (by have := HK.out.sectors; simp only [lims] at this; omega) (by have := HK.out.sectors; simp only [lims] at this; omega)
    have x2 : IntKind.u64.wrap s.now = s.now := CF.wu64_id _ (by have := HK.out.now; simp only [lims] at this; omega) (by have := HK.out.now; simp only [lims] at this; omega)
    have HR3 := Lib.hid (ranges3 s HK.out)
    clear hq hW2 hB hcv hA2 HA HA1 HBa HC HB1
    obtain ⟨c0, c1, c2, c3, c4, c5, c6, c7, c8, c9, c10, c11, c12, c13, c14, c15, c16, c17⟩ := HP.out.sup.cells
    go_wp2_with fail
    refine (putAll_calls w.heap.size B magic A2 8 [s.sectors, (s.seed : Int), s.now] (some ⟨W2.heap.size, 0, none⟩) 3 _ (HP.out.buf.below (below_alloc (Below.refl _ _) _)) (lit64 W2 [s.sectors, (s.seed : Int), s.now] (by simp)) HR3.out (by simp [magic]) (fun ad e _ => by cases e; have := HP.out.buf.lt; simp; omega) (by have := HP.out.below.size; simp; omega)).mono ?_
    rintro e w3 ⟨rfl, ⟨A3, d3, hb3⟩, hg3⟩
    have HP3 := Lib.hid ((HP.out.under (below_alloc (Below.refl _ _) _)).call hb3 hg3)
    rw [show magic ++ nums [s.sectors, (s.seed : Int), s.now] = head3 s from rfl] at HP3
    clear c0 c1 c2 c3 c4 c5 c6 c7 c8 c9 c10 c11 c12 c13 c14 c15 c16 c17 hb3 hg3
    obtain ⟨c0, c1, c2, c3, c4, c5, c6, c7, c8, c9, c10, c11, c12, c13, c14, c15, c16, c17⟩ := HP3.out.sup.cells
    go_wp2_with fail
    go_loopw [32] (fun iv W => ∃ i : Nat, i ≤ 2 ∧ iv = .int .i64 (i : Int) ∧ Aside0 (∃ A c, PS w W s w.heap.size B (head3 s ++ ancs s i) A c true)) (fun iv _ => 2 - (intOf iv).toNat)
    case atStart => exact ⟨0, by omega, rfl, ⟨A3, d3, by rw [show head3 s ++ ancs s 0 = head3 s from List.append_nil _]; exact HP3.out⟩⟩
    clear c0 c1 c2 c3 c4 c5 c6 c7 c8 c9 c10 c11 c12 c13 c14 c15 c16 c17
    case round =>
      obtain ⟨i, hi, rfl, ⟨A4, d4, hp⟩⟩ := hrel
      have HP4 := Lib.hid hp
      clear hp
      by_cases hlt : i < 2
      · have hd := decide_eq_true (show (i : Int) < 2 by omega)
        have ix := ixA s i hlt
        have HN := Lib.hid (show head3 s ++ ancs s (i + 1) = (head3 s ++ ancs s i) ++ ancB (anc s i) by rw [ancs_next s i hlt, List.append_assoc])
        have HO := Lib.hid (show ancOk (anc s i) = true by
          match i, hlt with
          | 0, _ => exact HK.out.a
          | 1, _ => exact HK.out.b)
        obtain ⟨⟨on, x, y, z⟩, hq⟩ : ∃ q, anc s i = q := ⟨_, rfl⟩
        rw [hq] at ix HN HO
        have HLE := Lib.hid (show (head3 s ++ ancs s i).length ≤ 118 by have := head3_le s; have := ancs_le s i; rw [List.length_append]; omega)
        obtain ⟨L, hL⟩ : ∃ L, head3 s ++ ancs s i = L := ⟨_, rfl⟩
        rw [hL] at HP4 HN HLE
        clear hq hL
        go_upto_region 9 with fail
        have HB4 := Lib.hid (HP4.out.under (below_alloc (Below.refl wr.heap.size wr) (.cells #[.int .i64 x, .int .i64 y, .int .i64 z, .bool on] 26)))
        have HA4 := Lib.hid (blk_new wr (.cells #[.int .i64 x, .int .i64 y, .int .i64 z, .bool on] 26))
        have HSZ := Lib.hid (HP4.out.buf.lt)
        obtain ⟨W4, hW4⟩ : ∃ W, wr.alloc (.cells #[.int .i64 x, .int .i64 y, .int .i64 z, .bool on] 26) = W := ⟨_, rfl⟩
        obtain ⟨G, hG⟩ : ∃ G, wr.heap.size = G := ⟨_, rfl⟩
        rw [hW4] at HB4 HA4
        rw [hG] at HA4 HSZ
        rw [hW4, hG]
        clear hW4 hG ix
        have y3 := blk_cell HA4.out 3
        simp only [List.getElem?_toArray, List.getElem?_cons_succ, List.getElem?_cons_zero] at y3
        obtain ⟨hxx, hyy, hzz⟩ := ancOk_range HO.out
        simp only at hxx hyy hzz
        have HXX := Lib.hid hxx
        have HYY := Lib.hid hyy
        have HZZ := Lib.hid hzz
        clear hxx hyy hzz
        obtain ⟨V, hV⟩ : ∃ V : Int, (if on = true then 1 else 0 : Int) = V := ⟨_, rfl⟩
        have HV0 := Lib.hid (show 0 ≤ V ∧ V < 2 by rw [← hV]; split <;> omega)
        have HVN : Hid (nums [V] = num (if on = true then 1 else 0)) := Lib.hid (by rw [← hV]; unfold nums; cases on <;> simp)
        go_upto_if 36 with fail
        go_cut [8] (fun s8 wx => W4 = wx ∧ s8 = .int .u64 V)
        case first =>
          cases on with
          | false =>
            go_wp2
            go_meet
            exact ⟨rfl, by rw [← hV]; rfl⟩
          | true =>
            go_wp2
            go_meet
            exact ⟨rfl, by rw [← hV]; rfl⟩
        case rest =>
          obtain ⟨rfl, rfl⟩ := hcut
          clear hV
          go_wp2_with fail
          refine (putAll_calls w.heap.size B L A4 d4 [V] (some ⟨W4.heap.size, 0, none⟩) 1 _ (HB4.out.buf.below (below_alloc (Below.refl _ _) _)) (lit64 W4 [V] (by simp)) (by intro x hx; simp only [List.mem_cons, List.not_mem_nil, or_false] at hx; have := HV0.out; omega) (by have := HLE.out; simp; omega) (fun ad e _ => by cases e; have := HB4.out.buf.lt; simp; omega) (by have := HB4.out.below.size; simp; omega)).mono ?_
          rintro e w5 ⟨rfl, ⟨A5, d5, hb5⟩, hg5⟩
          have HP5 := Lib.hid ((HB4.out.under (below_alloc (Below.refl _ _) _)).call hb5 hg5)
          have HA5 := Lib.hid (blk_grown (blk_below HA4.out (below_alloc (Below.refl W4.heap.size W4) (.cells #[.int .u64 V] 22))) hg5 (by have := HSZ.out; intro e; injection e with e; omega))
          have HM0 := Lib.hid (show (L ++ nums [V]).length ≤ 128 by have k := nums_le [V]; have := HLE.out; rw [List.length_append]; simp only [List.length_cons, List.length_nil] at k; omega)
          have HN5 := Lib.hid (show head3 s ++ ancs s (i + 1) = L ++ nums [V] ++ num (zig x) ++ num (zig y) ++ num (zig z) by rw [HN.out, HVN.out]; unfold ancB; simp only [List.append_assoc])
          obtain ⟨M, hM⟩ : ∃ M, L ++ nums [V] = M := ⟨_, rfl⟩
          rw [hM] at HP5 HN5
          have HM : Hid (M.length ≤ 130) := Lib.hid (by have := HM0.out; rw [← hM]; omega)
          clear hb5 hg5 hM y3
          have b5 := blk_cell HP5.out.buf.cell 0
          have a05 := blk_cell HA5.out 0
          have a15 := blk_cell HA5.out 1
          have a25 := blk_cell HA5.out 2
          simp only [List.getElem?_toArray, List.getElem?_cons_succ, List.getElem?_cons_zero] at b5 a05 a15 a25
          go_upto_region 13 with fail
          refine start_ (n := 14) (S := fun w' => w'.cell? ⟨B, 0, none⟩ = some (.slice A5 M.length d5) ∧ w'.cell? ⟨G, 0, none⟩ = some (.int .i64 x) ∧ w'.cell? ⟨G, 1, none⟩ = some (.int .i64 y) ∧ w'.cell? ⟨G, 2, none⟩ = some (.int .i64 z)) (ds := [13]) #[false, false, false, false, false, false, false, false, false, false, false, false, false, false] (by kernel_rfl) rfl rfl ⟨b5, a05, a15, a25⟩ (fun hHeld => ?_)
          refine pure_ (i := 1) (N := some 42) (v := ?_) (a' := ?_) #[false, true, false, false, false, false, false, false, false, false, false, false, false, false] rfl rfl (by kernel_rfl) (fun _ _ _ h => h) (Or.inl ⟨by rfl, ?_⟩) ?_ ?_
          rotate_left
          · intro w'
            go_simp
            with_reducible rfl
          rotate_left
          · simp only [Act.put, List.setIfInBounds_toArray, List.set_cons_zero, List.set_cons_succ, i64_w, i32_w]
            rfl
          refine pure_ (i := 2) (N := some 43) (v := ?_) (a' := ?_) #[false, true, true, false, false, false, false, false, false, false, false, false, false, false] rfl rfl (by kernel_rfl) (fun _ _ _ h => h) (Or.inl ⟨by rfl, ?_⟩) ?_ ?_
          rotate_left
          · intro w'
            go_simp
            with_reducible rfl
          rotate_left
          · simp only [Act.put, List.setIfInBounds_toArray, List.set_cons_zero, List.set_cons_succ, i64_w, i32_w]
            rfl
          refine pure_ (i := 5) (N := some 46) (v := ?_) (a' := ?_) #[false, true, true, false, false, true, false, false, false, false, false, false, false, false] rfl rfl (by kernel_rfl) (fun _ _ _ h => h) (Or.inl ⟨by rfl, ?_⟩) ?_ ?_
          rotate_left
          · intro w'
            go_simp
            with_reducible rfl
          rotate_left
          · simp only [Act.put, List.setIfInBounds_toArray, List.set_cons_zero, List.set_cons_succ, i64_w, i32_w]
            rfl
          refine pure_ (i := 6) (N := some 47) (v := ?_) (a' := ?_) #[false, true, true, false, false, true, true, false, false, false, false, false, false, false] rfl rfl (by kernel_rfl) (fun _ _ _ h => h) (Or.inl ⟨by rfl, ?_⟩) ?_ ?_
          rotate_left
          · intro w'
            go_simp
            with_reducible rfl
          rotate_left
          · simp only [Act.put, List.setIfInBounds_toArray, List.set_cons_zero, List.set_cons_succ, i64_w, i32_w]
            rfl
          refine pure_ (i := 9) (N := some 50) (v := ?_) (a' := ?_) #[false, true, true, false, false, true, true, false, false, true, false, false, false, false] rfl rfl (by kernel_rfl) (fun _ _ _ h => h) (Or.inl ⟨by rfl, ?_⟩) ?_ ?_
          rotate_left
          · intro w'
            go_simp
            with_reducible rfl
          rotate_left
          · simp only [Act.put, List.setIfInBounds_toArray, List.set_cons_zero, List.set_cons_succ, i64_w, i32_w]
            rfl
          refine pure_ (i := 10) (N := some 51) (v := ?_) (a' := ?_) #[false, true, true, false, false, true, true, false, false, true, true, false, false, false] rfl rfl (by kernel_rfl) (fun _ _ _ h => h) (Or.inl ⟨by rfl, ?_⟩) ?_ ?_
          rotate_left
          · intro w'
            go_simp
            with_reducible rfl
          rotate_left
          · simp only [Act.put, List.setIfInBounds_toArray, List.set_cons_zero, List.set_cons_succ, i64_w, i32_w]
            rfl
          refine take_ (i := 0) (N := some 41) (v := ?_) (a' := ?_) #[true, true, true, false, false, true, true, false, false, true, true, false, false, false] rfl rfl (by kernel_rfl) (fun _ _ _ h => h) (Or.inl ⟨by rfl, ?_⟩) hHeld ?_ ?_
          rotate_left
          · rintro w' ⟨s0, s1, s2, s3⟩
            go_simp
            with_reducible rfl
          rotate_left
          · simp only [Act.put, List.setIfInBounds_toArray, List.set_cons_zero, List.set_cons_succ, i64_w, i32_w]
            rfl
          refine take_ (i := 3) (N := some 44) (v := ?_) (a' := ?_) #[true, true, true, true, false, true, true, false, false, true, true, false, false, false] rfl rfl (by kernel_rfl) (fun _ _ _ h => h) (Or.inl ⟨by rfl, ?_⟩) hHeld ?_ ?_
          rotate_left
          · rintro w' ⟨s0, s1, s2, s3⟩
            go_simp
            with_reducible rfl
          rotate_left
          · simp only [Act.put, List.setIfInBounds_toArray, List.set_cons_zero, List.set_cons_succ, i64_w, i32_w]
            rfl
          refine take_ (i := 7) (N := some 48) (v := ?_) (a' := ?_) #[true, true, true, true, false, true, true, true, false, true, true, false, false, false] rfl rfl (by kernel_rfl) (fun _ _ _ h => h) (Or.inl ⟨by rfl, ?_⟩) hHeld ?_ ?_
          rotate_left
          · rintro w' ⟨s0, s1, s2, s3⟩
            go_simp
            with_reducible rfl
          rotate_left
          · simp only [Act.put, List.setIfInBounds_toArray, List.set_cons_zero, List.set_cons_succ, i64_w, i32_w]
            rfl
          refine take_ (i := 11) (N := some 52) (v := ?_) (a' := ?_) #[true, true, true, true, false, true, true, true, false, true, true, true, false, false] rfl rfl (by kernel_rfl) (fun _ _ _ h => h) (Or.inl ⟨by rfl, ?_⟩) hHeld ?_ ?_
          rotate_left
          · rintro w' ⟨s0, s1, s2, s3⟩
            go_simp
            with_reducible rfl
          rotate_left
          · simp only [Act.put, List.setIfInBounds_toArray, List.set_cons_zero, List.set_cons_succ, i64_w, i32_w]
            rfl
          refine one_ (i := 4) (N := some 45) #[true, true, true, true, true, true, true, true, false, true, true, true, false, false] rfl rfl (by kernel_rfl) (by decide) (fun K hK => ?_)
          refine goes_ Tryd.func19 (by kernel_rfl) rfl #[.slice A5 M.length d5, .int .i64 x] (by rfl) rfl rfl (by simp only [List.map_toArray, List.map_cons, List.map_nil]; rfl) ?_
          with_reducible refine (putInt_calls A5 d5 M x _ (HP5.out.buf.reads.below (below_drew (Below.refl _ _))) HP5.out.buf.room HXX.out (by have := HM.out; omega)).mono ?_
          rintro e w6 ⟨v6, rfl, ho6, hb6⟩
          refine ⟨_, rfl, ?_⟩
          obtain ⟨M6, hM6⟩ : ∃ M', M ++ num (zig x) = M' := ⟨_, rfl⟩
          rw [hM6] at ho6
          have HM6 : Hid (M6.length ≤ 140) := Lib.hid (by have := HM.out; have := num_le (zig x); rw [← hM6, List.length_append]; omega)
          have HE6 := Lib.hid hM6
          obtain ⟨A6, d6, rfl, hd6, hr6⟩ := ho6.slice
          have HB6 := Lib.hid (below_step (below_drew (Below.refl _ _)) hb6)
          have HO6 := Lib.hid ho6
          have HR6 := Lib.hid hr6
          have HD6 := Lib.hid hd6
          have b6 := blk_cell (HP5.out.under HB6.out).buf.cell 0
          have a06 := blk_cell (blk_below HA5.out HB6.out) 0
          have a16 := blk_cell (blk_below HA5.out HB6.out) 1
          have a26 := blk_cell (blk_below HA5.out HB6.out) 2
          simp only [List.getElem?_toArray, List.getElem?_cons_succ, List.getElem?_cons_zero] at b6 a06 a16 a26
          have f6 := blk_frozen (HP5.out.under HB6.out).buf.cell 0
          clear hM6 ho6 hb6 hd6 hr6
          refine hK.out _ _ ⟨b6, a06, a16, a26⟩ (fun hHeld => ?_)
          clear hK K
          refine norm_ (a' := ?_) ?_ ?_
          rotate_left
          · show Act.put _ (some 45) _ = _
            simp only [Act.put, List.setIfInBounds_toArray, List.set_cons_zero, List.set_cons_succ, i64_w, i32_w]
            rfl
          refine one_ (i := 8) (N := some 49) #[true, true, true, true, true, true, true, true, true, true, true, true, false, false] rfl rfl (by kernel_rfl) (by decide) (fun K hK => ?_)
          refine goes_ Tryd.func19 (by kernel_rfl) rfl #[.slice A6 M6.length d6, .int .i64 y] (by rfl) rfl rfl (by simp only [List.map_toArray, List.map_cons, List.map_nil]; rfl) ?_
          with_reducible refine (putInt_calls A6 d6 M6 y _ HR6.out HD6.out HYY.out (by have := HM6.out; omega)).mono ?_
          rintro e w7 ⟨v7, rfl, ho7, hb7⟩
          refine ⟨_, rfl, ?_⟩
          obtain ⟨M7, hM7⟩ : ∃ M', M6 ++ num (zig y) = M' := ⟨_, rfl⟩
          rw [hM7] at ho7
          have HM7 : Hid (M7.length ≤ 150) := Lib.hid (by have := HM6.out; have := num_le (zig y); rw [← hM7, List.length_append]; omega)
          have HE7 := Lib.hid hM7
          obtain ⟨A7, d7, rfl, hd7, hr7⟩ := ho7.slice
          have HB7 := Lib.hid (below_step HB6.out hb7)
          have HO7 := Lib.hid ho7
          have HR7 := Lib.hid hr7
          have HD7 := Lib.hid hd7
          have b7 := blk_cell (HP5.out.under HB7.out).buf.cell 0
          have a07 := blk_cell (blk_below HA5.out HB7.out) 0
          have a17 := blk_cell (blk_below HA5.out HB7.out) 1
          have a27 := blk_cell (blk_below HA5.out HB7.out) 2
          simp only [List.getElem?_toArray, List.getElem?_cons_succ, List.getElem?_cons_zero] at b7 a07 a17 a27
          have f7 := blk_frozen (HP5.out.under HB7.out).buf.cell 0
          clear hM7 ho7 hb7 hd7 hr7
          clear b6 a06 a16 a26 f6
          refine hK.out _ _ ⟨b7, a07, a17, a27⟩ (fun hHeld => ?_)
          clear hK K
          refine norm_ (a' := ?_) ?_ ?_
          rotate_left
          · show Act.put _ (some 49) _ = _
            simp only [Act.put, List.setIfInBounds_toArray, List.set_cons_zero, List.set_cons_succ, i64_w, i32_w]
            rfl
          refine one_ (i := 12) (N := some 53) #[true, true, true, true, true, true, true, true, true, true, true, true, true, false] rfl rfl (by kernel_rfl) (by decide) (fun K hK => ?_)
          refine goes_ Tryd.func19 (by kernel_rfl) rfl #[.slice A7 M7.length d7, .int .i64 z] (by rfl) rfl rfl (by simp only [List.map_toArray, List.map_cons, List.map_nil]; rfl) ?_
          with_reducible refine (putInt_calls A7 d7 M7 z _ HR7.out HD7.out HZZ.out (by have := HM7.out; omega)).mono ?_
          rintro e w8 ⟨v8, rfl, ho8, hb8⟩
          refine ⟨_, rfl, ?_⟩
          obtain ⟨M8, hM8⟩ : ∃ M', M7 ++ num (zig z) = M' := ⟨_, rfl⟩
          rw [hM8] at ho8
          have HM8 : Hid (M8.length ≤ 160) := Lib.hid (by have := HM7.out; have := num_le (zig z); rw [← hM8, List.length_append]; omega)
          have HE8 := Lib.hid hM8
          obtain ⟨A8, d8, rfl, hd8, hr8⟩ := ho8.slice
          have HB8 := Lib.hid (below_step HB7.out hb8)
          have HO8 := Lib.hid ho8
          have HR8 := Lib.hid hr8
          have HD8 := Lib.hid hd8
          have b8 := blk_cell (HP5.out.under HB8.out).buf.cell 0
          have a08 := blk_cell (blk_below HA5.out HB8.out) 0
          have a18 := blk_cell (blk_below HA5.out HB8.out) 1
          have a28 := blk_cell (blk_below HA5.out HB8.out) 2
          simp only [List.getElem?_toArray, List.getElem?_cons_succ, List.getElem?_cons_zero] at b8 a08 a18 a28
          have f8 := blk_frozen (HP5.out.under HB8.out).buf.cell 0
          clear hM8 ho8 hb8 hd8 hr8
          clear b7 a07 a17 a27 f7
          refine hK.out _ _ ⟨b8, a08, a18, a28⟩ (fun hHeld => ?_)
          clear hK K
          refine norm_ (a' := ?_) ?_ ?_
          rotate_left
          · show Act.put _ (some 53) _ = _
            simp only [Act.put, List.setIfInBounds_toArray, List.set_cons_zero, List.set_cons_succ, i64_w, i32_w]
            rfl
          refine last_ (i := 13) (N := none) #[true, true, true, true, true, true, true, true, true, true, true, true, true, true] rfl rfl (by kernel_rfl) (by decide) (fun K hK => ?_)
          refine skip_ (w1 := ?_) (by rfl) rfl ?_ ?_
          rotate_left
          · go_simp
            rfl
          refine hK.out _ _ ?_
          clear hK K
          refine done_ (by kernel_rfl) ?_
          go_wp2_with fail
          go_roundw
          case rel => exact ⟨i + 1, by omega, rfl, ⟨A8, d8, by rw [HN5.out, HE6.out, HE7.out, HE8.out]; exact HP5.out.put HB8.out (RG.OB.base' HO8.out HB7.out.size) HD8.out⟩⟩
          case measure => simp [intOf]; omega
      · have hd := decide_eq_false (show ¬ (i : Int) < 2 by omega)
        obtain rfl : i = 2 := by omega
        have HLE := Lib.hid (show (head3 s ++ ancs s 2).length ≤ 118 by have := head3_le s; have := ancs_le s 2; rw [List.length_append]; omega)
        have HBY := Lib.hid (body_parts s)
        obtain ⟨L, hL⟩ : ∃ L, head3 s ++ ancs s 2 = L := ⟨_, rfl⟩
        rw [hL] at HP4 HLE HBY
        clear hL
        have HR7 := Lib.hid (ranges7 s HK.out)
        obtain ⟨y1, y2, y3, y4, y5, y6, y7⟩ := wraps7 s HK.out
        obtain ⟨c0, c1, c2, c3, c4, c5, c6, c7, c8, c9, c10, c11, c12, c13, c14, c15, c16, c17⟩ := HP4.out.sup.cells
        go_upto_region 16 with fail
        have HP5 := Lib.hid (HP4.out.under (below_alloc (Below.refl wr.heap.size wr) (.cells #[.int .i64 s.placed, .int .i64 s.broken, .int .i64 s.grown, .int .i64 s.burnt] 29)))
        have HA5 := Lib.hid (blk_new wr (.cells #[.int .i64 s.placed, .int .i64 s.broken, .int .i64 s.grown, .int .i64 s.burnt] 29))
        obtain ⟨W5, hW5⟩ : ∃ W, wr.alloc (.cells #[.int .i64 s.placed, .int .i64 s.broken, .int .i64 s.grown, .int .i64 s.burnt] 29) = W := ⟨_, rfl⟩
        obtain ⟨G, hG⟩ : ∃ G, wr.heap.size = G := ⟨_, rfl⟩
        rw [hW5] at HP5 HA5
        rw [hG] at HA5
        rw [hW5, hG]
        clear hW5 hG c0 c1 c2 c3 c4 c5 c6 c7 c8 c9 c10 c11 c12 c13 c14 c15 c16 c17
        obtain ⟨c0, c1, c2, c3, c4, c5, c6, c7, c8, c9, c10, c11, c12, c13, c14, c15, c16, c17⟩ := HP5.out.sup.cells
        have z0 := blk_cell HA5.out 0
        have z1 := blk_cell HA5.out 1
        have z2 := blk_cell HA5.out 2
        have z3 := blk_cell HA5.out 3
        simp only [List.getElem?_toArray, List.getElem?_cons_succ, List.getElem?_cons_zero] at z0 z1 z2 z3
        go_wp2_with fail
        refine (putAll_calls w.heap.size B L A4 d4 [s.placed, s.broken, s.grown, s.burnt, s.head, s.size, s.saves] (some ⟨W5.heap.size, 0, none⟩) 7 _ (HP5.out.buf.below (below_alloc (Below.refl _ _) _)) (lit64 W5 [s.placed, s.broken, s.grown, s.burnt, s.head, s.size, s.saves] (by simp)) HR7.out (by have := HLE.out; simp; omega) (fun ad e _ => by cases e; have := HP5.out.buf.lt; simp; omega) (by have := HP5.out.below.size; simp; omega)).mono ?_
        rintro e w11 ⟨rfl, ⟨A11, d11, hb11⟩, hg11⟩
        have HP11 := Lib.hid ((HP5.out.under (below_alloc (Below.refl _ _) _)).call hb11 hg11)
        rw [← HBY.out] at HP11
        have HLB := Lib.hid (body_le s)
        have HDAT : Hid (body s ++ List.replicate (508 - (body s).length) 0 = data s) := Lib.hid rfl
        have HDB := Lib.hid (data_bytes s HK.out)
        obtain ⟨L, hL⟩ : ∃ L, body s = L := ⟨_, rfl⟩
        rw [hL] at HP11 HLB HDAT
        have hlb := HLB.out
        have hsum : IntKind.u64.wrap ((sumI (data s) : Nat) : Int) = ((sumI (data s) : Nat) : Int) := CF.wu64_id _ (by omega) (by have := sumI_lt (data s) HDB.out; omega)
        have HPF := Lib.hid (put_fixed s)
        have hsub : IntKind.i64.wrap (508 - (L.length : Int)) = ((508 - L.length : Nat) : Int) := by rw [IntKind.wrap_i64]; omega
        clear hb11 hg11 hL c0 c1 c2 c3 c4 c5 c6 c7 c8 c9 c10 c11 c12 c13 c14 c15 c16 c17 z0 z1 z2 z3
        have b11 := blk_cell HP11.out.buf.cell 0
        simp only [List.getElem?_toArray, List.getElem?_cons_succ, List.getElem?_cons_zero] at b11
        go_upto_region 17 with fail
        refine start_ (n := 7) (S := fun w' => w'.cell? ⟨B, 0, none⟩ = some (.slice A11 L.length d11)) (ds := [6]) #[false, false, false, false, false, false, false] (by kernel_rfl) rfl rfl (b11) (fun hHeld => ?_)
        refine take_ (i := 0) (N := some 82) (v := ?_) (a' := ?_) #[true, false, false, false, false, false, false] rfl rfl (by kernel_rfl) (fun _ _ _ h => h) (Or.inl ⟨by rfl, ?_⟩) hHeld ?_ ?_
        rotate_left
        · intro w' s0
          go_simp
          with_reducible rfl
        rotate_left
        · simp only [Act.put, List.setIfInBounds_toArray, List.set_cons_zero, List.set_cons_succ, i64_w, i32_w]
          rfl
        refine take_ (i := 1) (N := some 83) (v := ?_) (a' := ?_) #[true, true, false, false, false, false, false] rfl rfl (by kernel_rfl) (fun _ _ _ h => h) (Or.inl ⟨by rfl, ?_⟩) hHeld ?_ ?_
        rotate_left
        · intro w' s0
          go_simp
          with_reducible rfl
        rotate_left
        · simp only [Act.put, List.setIfInBounds_toArray, List.set_cons_zero, List.set_cons_succ, i64_w, i32_w]
          rfl
        refine pure_ (i := 2) (N := some 84) (v := ?_) (a' := ?_) #[true, true, true, false, false, false, false] rfl rfl (by kernel_rfl) (fun _ _ _ h => h) (Or.inl ⟨by rfl, ?_⟩) ?_ ?_
        rotate_left
        · intro w'
          go_simp
          with_reducible rfl
        rotate_left
        · simp only [Act.put, List.setIfInBounds_toArray, List.set_cons_zero, List.set_cons_succ, i64_w, i32_w]
          rfl
        refine pure_ (i := 3) (N := some 85) (v := ?_) (a' := ?_) #[true, true, true, true, false, false, false] rfl rfl (by kernel_rfl) (fun _ _ _ h => h) (Or.inl ⟨by rfl, ?_⟩) ?_ ?_
        rotate_left
        · intro w'
          go_simp
          with_reducible rfl
        rotate_left
        · simp only [Act.put, List.setIfInBounds_toArray, List.set_cons_zero, List.set_cons_succ, i64_w, i32_w]
          rfl
        refine one_ (i := 4) (N := some 86) #[true, true, true, true, true, false, false] rfl rfl (by kernel_rfl) (by decide) (fun K hK => ?_)
        refine goes_ Tryd.func20 (by kernel_rfl) rfl #[.string ⟨#[0]⟩, .int .i64 ((508 - L.length : Nat) : Int)] (by rfl) rfl rfl (by simp only [List.map_toArray, List.map_cons, List.map_nil]; rfl) ?_
        with_reducible refine (Tryd.strings_Repeat ⟨#[0]⟩ (508 - L.length) _ (by omega) (by have : (⟨#[0]⟩ : ByteArray).size = 1 := rfl; rw [this]; omega)).mono ?_
        rintro e w12 ⟨rfl, hb12⟩
        refine ⟨_, rfl, ?_⟩
        obtain ⟨Z, hZ⟩ : ∃ Z, (⟨(Lib.repeatL (⟨#[0]⟩ : ByteArray).data.toList (508 - L.length)).toArray⟩ : ByteArray) = Z := ⟨_, rfl⟩
        rw [hZ]
        have HZ := Lib.hid (rep_bytes (508 - L.length) hZ)
        have HB12 := Lib.hid (below_step (below_drew (Below.refl _ _)) hb12)
        have HP12 := Lib.hid (HP11.out.under HB12.out)
        have b12 := blk_cell HP12.out.buf.cell 0
        simp only [List.getElem?_toArray, List.getElem?_cons_succ, List.getElem?_cons_zero] at b12
        clear hb12 hZ
        refine hK.out _ _ (b12) (fun hHeld => ?_)
        clear hK K
        refine norm_ (a' := ?_) ?_ ?_
        rotate_left
        · show Act.put _ (some 86) _ = _
          simp only [Act.put, List.setIfInBounds_toArray, List.set_cons_zero, List.set_cons_succ, i64_w, i32_w]
          rfl
        refine one_ (i := 5) (N := some 87) #[true, true, true, true, true, true, false] rfl rfl (by kernel_rfl) (by decide) (fun K hK => ?_)
        refine step_append_str w.heap.size (by rfl) (.tmp 82) (.tmp 86) 41 9 rfl Tryd.underlying41 Tryd.underlying9 infoU8 (.slice A11 L.length d11) L Z rfl rfl (HP12.out.buf.own rfl) HP12.out.below HP12.out.below.size (by have := HZ.out.1; omega) ?_
        intro v13 w13 ho13 hb13 hg13
        have hne13 := own_ne (HP12.out.buf.own rfl) HP12.out.buf.cell (by decide)
        have Hb13 := Lib.hid (blk_grown HP12.out.buf.cell hg13 hne13)
        rw [HZ.out.2, HDAT.out] at ho13
        obtain ⟨A13, d13, rfl, hd13, hr13⟩ := ho13.slice
        have HO13 := Lib.hid ho13
        have HD13 := Lib.hid hd13
        have HB13 := Lib.hid hb13
        have hne14 := own_ne ho13 Hb13.out (by decide)
        have HNE := Lib.hid hne14
        have b13 := blk_cell Hb13.out 0
        have f13 := blk_frozen Hb13.out 0
        simp only [List.getElem?_toArray, List.getElem?_cons_succ, List.getElem?_cons_zero] at b13
        clear ho13 hb13 hg13 hne13 hne14 hd13 hr13 b12
        refine hK.out _ _ (b13) (fun hHeld => ?_)
        clear hK K
        refine norm_ (a' := ?_) ?_ ?_
        rotate_left
        · show Act.put _ (some 87) _ = _
          simp only [Act.put, List.setIfInBounds_toArray, List.set_cons_zero, List.set_cons_succ, i64_w, i32_w]
          rfl
        refine last_ (i := 6) (N := none) #[true, true, true, true, true, true, true] rfl rfl (by kernel_rfl) (by decide) (fun K hK => ?_)
        refine skip_ (w1 := ?_) (by rfl) rfl ?_ ?_
        rotate_left
        · go_simp
          rfl
        refine hK.out _ _ ?_
        clear hK K
        refine done_ (by kernel_rfl) ?_
        have HB14 : Hid (Below w.heap.size w (w13.setCell ⟨B, 0, none⟩ (.slice A13 (data s).length d13))) := Lib.hid (belowg HB13.out (gset (World.grownBy.refl w13 _) 0 _) HB13.out.size (by have := HP11.out.g0; have := HP11.out.gB; omega))
        have Hb14 : Hid ((w13.setCell ⟨B, 0, none⟩ (.slice A13 (data s).length d13)).heap[B]? = some (.cells #[.slice A13 (data s).length d13] 41 (0, 0))) := Lib.hid (by rw [blk_set Hb13.out]; rfl)
        have HR14 := Lib.hid (OB.grown HO13.out (gset (World.grownBy.refl w13 _) 0 (.slice A13 (data s).length d13)) HNE.out.symm).reads
        obtain ⟨W14, hW14⟩ : ∃ W, w13.setCell ⟨B, 0, none⟩ (.slice A13 (data s).length d13) = W := ⟨_, rfl⟩
        rw [hW14] at HB14 Hb14 HR14
        rw [hW14]
        clear hW14 f13
        have b14 := blk_cell Hb14.out 0
        simp only [List.getElem?_toArray, List.getElem?_cons_succ, List.getElem?_cons_zero] at b14
        go_upto_region 18 with fail
        refine start_ (n := 8) (S := fun w' => w'.cell? ⟨B, 0, none⟩ = some (.slice A13 (data s).length d13)) (ds := []) #[false, false, false, false, false, false, false, false] (by kernel_rfl) rfl rfl (b14) (fun hHeld => ?_)
        refine take_ (i := 0) (N := some 88) (v := ?_) (a' := ?_) #[true, false, false, false, false, false, false, false] rfl rfl (by kernel_rfl) (fun _ _ _ h => h) (Or.inl ⟨by rfl, ?_⟩) hHeld ?_ ?_
        rotate_left
        · intro w' s0
          go_simp
          with_reducible rfl
        rotate_left
        · simp only [Act.put, List.setIfInBounds_toArray, List.set_cons_zero, List.set_cons_succ, i64_w, i32_w]
          rfl
        refine take_ (i := 1) (N := some 89) (v := ?_) (a' := ?_) #[true, true, false, false, false, false, false, false] rfl rfl (by kernel_rfl) (fun _ _ _ h => h) (Or.inl ⟨by rfl, ?_⟩) hHeld ?_ ?_
        rotate_left
        · intro w' s0
          go_simp
          with_reducible rfl
        rotate_left
        · simp only [Act.put, List.setIfInBounds_toArray, List.set_cons_zero, List.set_cons_succ, i64_w, i32_w]
          rfl
        refine one_ (i := 2) (N := some 90) #[true, true, true, false, false, false, false, false] rfl rfl (by kernel_rfl) (by decide) (fun K hK => ?_)
        refine goes_ Tryd.func22 (by kernel_rfl) rfl #[.slice A13 (data s).length d13] (by rfl) rfl rfl (by simp only [List.map_toArray, List.map_cons, List.map_nil]; rfl) ?_
        with_reducible refine (CK.sum_calls A13 d13 (data s) _ (HR14.out.below (below_drew (Below.refl _ _))) HD13.out HDB.out (by rw [data_length]; omega) (HT.out.below (below_drew HB14.out) H0.out) (by have := HB14.out.size; have := H0.out; simp only [World.size_drew]; omega)).mono ?_
        rintro e w15 ⟨rfl, hb15⟩
        refine ⟨_, rfl, ?_⟩
        have HB15 := Lib.hid (below_step (below_drew (Below.refl _ _)) hb15)
        have b15 := blk_cell (blk_below Hb14.out HB15.out) 0
        simp only [List.getElem?_toArray, List.getElem?_cons_succ, List.getElem?_cons_zero] at b15
        clear hb15
        refine hK.out _ _ (b15) (fun hHeld => ?_)
        clear hK K
        refine norm_ (a' := ?_) ?_ ?_
        rotate_left
        · show Act.put _ (some 90) _ = _
          simp only [Act.put, List.setIfInBounds_toArray, List.set_cons_zero, List.set_cons_succ, i64_w, i32_w]
          rfl
        refine one_ (i := 3) (N := some 91) #[true, true, true, true, false, false, false, false] rfl rfl (by kernel_rfl) (by decide) (fun K hK => ?_)
        refine value_ (w1 := ?_) (v := ?_) (by rfl) rfl ?_ ?_
        rotate_left 2
        · go_simp
          try rw [hsum]
          constructor
          · rfl
          · rfl
        refine hK.out _ _ (b15) (fun hHeld => ?_)
        clear hK K
        refine norm_ (a' := ?_) ?_ ?_
        rotate_left
        · show Act.put _ (some 91) _ = _
          simp only [Act.put, List.setIfInBounds_toArray, List.set_cons_zero, List.set_cons_succ, i64_w, i32_w]
          rfl
        refine one_ (i := 4) (N := some 92) #[true, true, true, true, true, false, false, false] rfl rfl (by kernel_rfl) (by decide) (fun K hK => ?_)
        refine goes_ Tryd.func21 (by kernel_rfl) rfl #[.slice A13 (data s).length d13, .int .u64 ((sumI (data s) : Nat) : Int), .int .i64 4] (by rfl) rfl rfl (by simp only [List.map_toArray, List.map_cons, List.map_nil]; rfl) ?_
        with_reducible refine (CR.putFixed_calls A13 d13 (data s) (sumI (data s)) 4 _ (HR14.out.below HB15.out) HD13.out (by rw [data_length]; omega)).mono ?_
        rintro e w16 ⟨v16, rfl, ho16, hb16⟩
        refine ⟨_, rfl, ?_⟩
        rw [HPF.out] at ho16
        obtain ⟨A16, d16, rfl, hd16, hr16⟩ := ho16.slice
        have hcs := conv_str (c := d16) hr16
        have HB16 := Lib.hid (below_step HB15.out hb16)
        have b16 := blk_cell (blk_below Hb14.out HB16.out) 0
        simp only [List.getElem?_toArray, List.getElem?_cons_succ, List.getElem?_cons_zero] at b16
        clear hb16 ho16 b15
        refine hK.out _ _ (b16) (fun hHeld => ?_)
        clear hK K
        refine norm_ (a' := ?_) ?_ ?_
        rotate_left
        · show Act.put _ (some 92) _ = _
          simp only [Act.put, List.setIfInBounds_toArray, List.set_cons_zero, List.set_cons_succ, i64_w, i32_w]
          rfl
        refine one_ (i := 5) (N := some 93) #[true, true, true, true, true, true, false, false] rfl rfl (by kernel_rfl) (by decide) (fun K hK => ?_)
        refine value_ (w1 := ?_) (v := ?_) (by rfl) rfl ?_ ?_
        rotate_left 2
        · go_simp
          try rw [hcs]
          constructor
          · rfl
          · rfl
        refine hK.out _ _ (b16) (fun hHeld => ?_)
        clear hK K
        refine norm_ (a' := ?_) ?_ ?_
        rotate_left
        · show Act.put _ (some 93) _ = _
          simp only [Act.put, List.setIfInBounds_toArray, List.set_cons_zero, List.set_cons_succ, i64_w, i32_w]
          rfl
        refine pure_ (i := 6) (N := some 2) (v := ?_) (a' := ?_) #[true, true, true, true, true, true, true, false] rfl rfl (by kernel_rfl) (fun _ _ _ h => h) (Or.inl ⟨by rfl, ?_⟩) ?_ ?_
        rotate_left
        · intro w'
          go_simp
          with_reducible rfl
        rotate_left
        · simp only [Act.put, List.setIfInBounds_toArray, List.set_cons_zero, List.set_cons_succ, i64_w, i32_w]
          rfl
        refine pure_ (i := 7) (N := some 3) (v := ?_) (a' := ?_) #[true, true, true, true, true, true, true, true] rfl rfl (by kernel_rfl) (fun _ _ _ h => h) (Or.inl ⟨by rfl, ?_⟩) ?_ ?_
        rotate_left
        · intro w'
          go_simp
          with_reducible rfl
        rotate_left
        · simp only [Act.put, List.setIfInBounds_toArray, List.set_cons_zero, List.set_cons_succ, i64_w, i32_w]
          rfl
        refine done_ (by kernel_rfl) ?_
        go_wp2
        go_ret2
        refine ⟨?_, below_step HB14.out HB16.out⟩
        rw [HQ.out]
        rfl
end Go.Proofs.YtijjecnmdhefbaaDoor.SP

namespace Go.Proofs.YtijjecnmdhefbaaDoor.RG
open Go.RowKit Go.Proofs.YtijjecnmdhefbaaDoorW.PrintWords Go.Proofs.YtijjecnmdhefbaaDoorW.PrintLast Go.Proofs.YtijjecnmdhefbaaDoorW.PrintMore Go.Proofs.YtijjecnmdhefbaaDoor.CD Go.Proofs.YtijjecnmdhefbaaDoor.BR Go.Proofs.YtijjecnmdhefbaaDoor.BP
set_option linter.unusedVariables false
set_option linter.unusedSimpArgs false
variable {p : Nat → Prop}
theorem small_calls (g : Nat) (s : St) (w : World) (h : BQ.Rdr p w g s.1 s.2) :
    Calls Tryd.prog 31 #[.func (.func 32) #[.pointer (some ⟨g, 0, none⟩)] #[]] w fun e w' => e = .returned (.int .i64 (rNext s).1) ∧ BQ.Rdr p w' g (rNext s).2.1 (rNext s).2.2 ∧ w.grownBy w' (some g) := by
  have H := Lib.hid h
  have hl := rNum_lt s h.bytes
  clear h
  have HN0 := BQ.num_calls g s.1 s.2 w H.out
  obtain ⟨⟨m, s'⟩, hq⟩ : ∃ q, rNum (s.1, s.2) = q := ⟨_, rfl⟩
  have hq' : rNum s = (m, s') := hq
  unfold rNext
  rw [hq'] at hl ⊢
  rw [hq] at HN0
  simp only at HN0 hl ⊢
  have HN := Lib.hid HN0
  clear hq hq' HN0
  by_cases hm : m > 4611686018427387904
  · have hd : decide ((4611686018427387904 : Int) < (m : Int)) = true := decide_eq_true (by omega)
    rw [if_pos hm]
    clear hm hl
    go_enter Tryd.func31, Tryd.ntmps31
    go_wp2_with fail
    refine HN.out.mono ?_; rintro e w' ⟨rfl, hr, hg⟩
    go_wp2
    go_ret
    exact ⟨rfl, hr, hg⟩
  · have hd : decide ((4611686018427387904 : Int) < (m : Int)) = false := decide_eq_false (by omega)
    have hw : IntKind.i64.wrap (m : Int) = (m : Int) := by rw [IntKind.wrap_i64]; omega
    have hw2 : wrap64 (m : Int) = (m : Int) := by unfold wrap64; omega
    rw [if_neg hm]
    clear hm hl
    go_enter Tryd.func31, Tryd.ntmps31
    go_wp2_with fail
    refine HN.out.mono ?_; rintro e w' ⟨rfl, hr, hg⟩
    go_wp2
    go_ret
    exact ⟨rfl, hr, hg⟩
structure Nx (w0 W : World) (C g : Nat) (s : St) : Prop where
  rdr : BQ.Rdr (fun k => w0.heap.size ≤ k ∧ k < g) W g s.1 s.2
  cell : W.heap[C]? = some (.cells #[.pointer (some ⟨g, 0, none⟩)] 71 (0, 0))
  below : Below w0.heap.size w0 W
  g1 : w0.heap.size ≤ g
  g2 : g < C
theorem Nx.lt {w0 W : World} {C g : Nat} {s : St} (h : Nx w0 W C g s) : C < W.heap.size := blk_lt h.cell
theorem Nx.under {w0 W W' : World} {C g : Nat} {s : St} (h : Nx w0 W C g s) (hb : Below W.heap.size W W') : Nx w0 W' C g s := ⟨h.rdr.below hb, blk_below h.cell hb, below_step h.below hb, h.g1, h.g2⟩
theorem Nx.far {w0 W W' : World} {C g : Nat} {s : St} (h : Nx w0 W C g s) {row : Option Nat} (hg : W.grownBy W' row) (hr : ∀ k, row = some k → C < k) : Nx w0 W' C g s := by
  refine ⟨h.rdr.far hg (fun e => ?_) (fun k e => ?_), blk_grown h.cell hg (fun e => ?_), h.below.grown hg h.below.size (fun k e => ?_), h.g1, h.g2⟩
  · have := hr g e.symm; have := h.g2; omega
  · have := hr k e; have := h.g2; omega
  · have := hr C e.symm; omega
  · have := hr k e; have := h.g2; have := h.g1; omega
theorem Nx.step {w0 W W' : World} {C g : Nat} {s s' : St} (h : Nx w0 W C g s) (hr : BQ.Rdr (fun k => w0.heap.size ≤ k ∧ k < g) W' g s'.1 s'.2) (hg : W.grownBy W' (some g)) : Nx w0 W' C g s' :=
  ⟨hr, blk_grown h.cell hg (fun e => by have := h.g2; injection e with e; omega), belowg h.below hg h.below.size h.g1, h.g1, h.g2⟩
theorem nextGet_calls (w0 : World) (C g : Nat) (s : St) (w : World) (h : Nx w0 w C g s) :
    Calls Tryd.prog 40 #[.pointer (some ⟨C, 0, none⟩)] w fun e w' => e = .returned (.int .i64 (rNext s).1) ∧ Nx w0 w' C g (rNext s).2 ∧ w.grownBy w' (some g) := by
  have H := Lib.hid h
  have h0 := blk_cell h.cell 0
  simp only [List.getElem?_toArray, List.getElem?_cons_succ, List.getElem?_cons_zero] at h0
  clear h
  go_enter Tryd.func40, Tryd.ntmps40
  go_wp2_with fail
  refine (small_calls g s _ H.out.rdr).mono ?_; rintro e w' ⟨rfl, hr, hg⟩; have HR := Lib.hid hr; have HG := Lib.hid hg; clear hr hg
  go_wp2
  go_ret
  exact ⟨rfl, H.out.step HR.out HG.out, HG.out⟩
end Go.Proofs.YtijjecnmdhefbaaDoor.RG

namespace Go.Proofs.YtijjecnmdhefbaaDoor.SP
open Go.RowKit Go.Proofs.YtijjecnmdhefbaaDoorW.PrintWords Go.Proofs.YtijjecnmdhefbaaDoorW.PrintLast Go.Proofs.YtijjecnmdhefbaaDoorW.PrintMore Go.Proofs.YtijjecnmdhefbaaDoor.CD Go.Proofs.YtijjecnmdhefbaaDoor.BR Go.Proofs.YtijjecnmdhefbaaDoor.BP Go.Proofs.YtijjecnmdhefbaaDoor.RG
set_option linter.unusedVariables false
set_option linter.unusedSimpArgs false
set_option maxRecDepth 100000
def zeroA : Anc := ⟨false, 0, 0, 0⟩
def zeroS : Sup := ⟨0, 0, 0, zeroA, zeroA, 0, 0, 0, 0, 0, 0, 0⟩
def Gets (sector : ByteArray) (w : World) (e : Ending) (w' : World) : Prop :=
  ((∃ s, Ok lims s ∧ putS s = bytesOf sector ∧ e = .returned (.tuple #[.agg (supC s).toArray, .int .i64 0])) ∨ (∀ s, Ok lims s → putS s ≠ bytesOf sector) ∧ e = .returned (.tuple #[.agg (supC zeroS).toArray, .int .i64 21])) ∧ Below w.heap.size w w'
theorem load_sup {W : World} {g : Nat} {s : Sup} (h : SupAt W g s) : (loadVar 33 ⟨g, 0, none⟩).run Tryd.prog W = .ok (.agg (supC s).toArray) W :=
  run_loadVar_mid W g 0 33 (supC s) _ (sup_range h) Tryd.underlying33 rfl sup_info
def putAt (cs : Array Value) : Nat → List Value → Array Value
  | _, [] => cs
  | o, v :: r => putAt (cs.setIfInBounds o v) (o + 1) r
theorem blk_sets {t : TypeId} {b : Nat} : ∀ (vs : List Value) (o : Nat) (w : World) (cs : Array Value), w.heap[b]? = some (.cells cs t (0, 0)) → (w.setCells b o vs).heap[b]? = some (.cells (putAt cs o vs) t (0, 0))
  | [], _, _, _, h => h
  | v :: r, o, w, cs, h => blk_sets r (o + 1) _ _ (blk_set h o v)
theorem gsets {a : World} {b : Nat} : ∀ (vs : List Value) (o : Nat) (w : World), a.grownBy w (some b) → a.grownBy (w.setCells b o vs) (some b)
  | [], _, _, h => h
  | v :: r, o, w, h => gsets r (o + 1) _ (gset h o v)
theorem blk_there {w : World} {b : Nat} {cs : Array Value} {t : TypeId} (h : w.heap[b]? = some (.cells cs t (0, 0))) (o n : Nat) (hn : o + n ≤ cs.size) : w.there b o n := fun j hj => by
  rw [blk_cell h, blk_frozen h]
  refine ⟨?_, rfl⟩
  rw [Array.getElem?_eq_getElem (by omega)]
  rfl
theorem putAt_all : ∀ (vs pre old : List Value), old.length = vs.length → putAt (pre ++ old).toArray pre.length vs = (pre ++ vs).toArray
  | [], pre, old, h => by
    have : old = [] := List.eq_nil_of_length_eq_zero h
    subst this
    rfl
  | v :: r, pre, [], h => by simp at h
  | v :: r, pre, o :: old, h => by
    have e : (pre ++ o :: old).toArray.setIfInBounds pre.length v = ((pre ++ [v]) ++ old).toArray := by
      rw [List.setIfInBounds_toArray, List.set_append_right _ _ (Nat.le_refl _), Nat.sub_self]
      simp
    have k := putAt_all r (pre ++ [v]) old (by simpa using h)
    rw [putAt, e]
    rw [List.length_append, List.length_singleton] at k
    rw [k, List.append_assoc]
    rfl
theorem sup_put (s z : Sup) : putAt (supC z).toArray 0 (supC s) = (supC s).toArray := putAt_all (supC s) [] (supC z) rfl
theorem SupAt.all {W : World} {g : Nat} {z : Sup} (h : SupAt W g z) (s : Sup) : SupAt (W.setCells g 0 (supC s)) g s := by
  have := blk_sets (supC s) 0 W _ h
  rw [sup_put] at this
  exact this
theorem sup_one (s : Sup) : (supC s).toArray.all (·.oneCell') = true := by simp [supC, Value.oneCell']
theorem SupAt.there {W : World} {g : Nat} {s : Sup} (h : SupAt W g s) : W.there g 0 18 := blk_there h 0 18 (Nat.le_refl _)
theorem nextSuper_calls (w0 : World) (C g : Nat) (s : St) (w : World) (h : Nx w0 w C g s) :
    Calls Tryd.prog 30 #[.pointer (some ⟨C, 0, none⟩)] w fun e w' => e = .returned (.int .i64 (rNext s).1) ∧ Nx w0 w' C g (rNext s).2 ∧ w.grownBy w' (some g) := by
  have H := Lib.hid h
  have h0 := blk_cell h.cell 0
  simp only [List.getElem?_toArray, List.getElem?_cons_succ, List.getElem?_cons_zero] at h0
  clear h
  go_enter Tryd.func30, Tryd.ntmps30
  go_wp2_with fail
  refine (small_calls g s _ H.out.rdr).mono ?_; rintro e w' ⟨rfl, hr, hg⟩; have HR := Lib.hid hr; have HG := Lib.hid hg; clear hr hg
  go_wp2
  go_ret
  exact ⟨rfl, H.out.step HR.out HG.out, HG.out⟩
structure GS (w0 W : World) (C g G : Nat) (st : St) (s : Sup) : Prop where
  nx : Nx w0 W C g st
  sup : SupAt W G s
  cG : C < G
theorem GS.under {w0 W W' : World} {C g G : Nat} {st : St} {s : Sup} (h : GS w0 W C g G st s) (hb : Below W.heap.size W W') : GS w0 W' C g G st s := ⟨h.nx.under hb, h.sup.below hb h.sup.lt, h.cG⟩
theorem GS.read {w0 W W' : World} {C g G : Nat} {st st' : St} {s : Sup} (h : GS w0 W C g G st s) (hn : Nx w0 W' C g st') (hg : W.grownBy W' (some g)) : GS w0 W' C g G st' s :=
  ⟨hn, blk_grown h.sup hg (fun e => by have := h.cG; have := h.nx.g2; injection e with e; omega), h.cG⟩
theorem GS.set {w0 W : World} {C g G : Nat} {st : St} {s : Sup} (h : GS w0 W C g G st s) (i : Nat) (v : Value) {s' : Sup} (e : (supC s).set i v = supC s') : GS w0 (W.setCell ⟨G, i, none⟩ v) C g G st s' :=
  ⟨h.nx.far (gset (World.grownBy.refl W _) i v) (fun k hk => by injection hk with hk; have := h.cG; omega), blk_put h.sup i v (by rw [List.setIfInBounds_toArray, e]), h.cG⟩
theorem numQ_calls (w0 : World) (C g : Nat) (s : St) (w : World) (h : Nx w0 w C g s) :
    Calls Tryd.prog 32 #[.pointer (some ⟨g, 0, none⟩)] w fun e w' => e = .returned (.int .u64 ((rNum s).1 : Int)) ∧ Nx w0 w' C g (rNum s).2 ∧ w.grownBy w' (some g) :=
  (BQ.num_calls g s.1 s.2 w h.rdr).mono fun e w' hh => ⟨hh.1, h.step hh.2.1 hh.2.2, hh.2.2⟩
theorem rInt_is (s : St) : rInt s = rInt' s := by
  unfold rInt rInt' rNum
  cases h : s.2 <;> simp [zag]
theorem intQ_calls (w0 : World) (C g : Nat) (s : St) (w : World) (h : Nx w0 w C g s) :
    Calls Tryd.prog 33 #[.pointer (some ⟨g, 0, none⟩)] w fun e w' => e = .returned (.int .i64 (rInt' s).1) ∧ Nx w0 w' C g (rInt' s).2 ∧ w.grownBy w' (some g) :=
  by
  have k := BQ.int_calls g s.1 s.2 w h.rdr
  rw [rInt_is] at k
  exact k.mono fun e w' hh => ⟨hh.1, h.step hh.2.1 hh.2.2, hh.2.2⟩
def stI (t : St) (i : Nat) : St := if i = 0 then t else if i = 1 then (readA t).2 else (readA (readA t).2).2
def supI (a : Int) (b : Nat) (c : Int) (t : St) (i : Nat) : Sup := ⟨a, b, c, if i = 0 then zeroA else (readA t).1, if i = 2 then (readA (readA t).2).1 else zeroA, 0, 0, 0, 0, 0, 0, 0⟩
theorem get_none {sector : ByteArray} {s : Sup} {X : List Int} (hx : X = (bytesOf sector).drop 8) (hr : readS X = s) (h : superB s = false ∨ putS s ≠ bytesOf sector) : ∀ s', Ok lims s' → putS s' ≠ bytesOf sector := fun s' hk e => by
  have k := readS_put lims s' hk (by unfold lims; decide)
  rw [e, ← hx, hr] at k
  subst k
  rcases h with h | h
  · rw [(superB_iff s hk.seed).2 hk] at h
    cases h
  · exact h e
theorem pre_not {sector : ByteArray} (h : (bytesOf sector).length = 512 → (bytesOf sector).take 8 = magic → False) : ∀ s, Ok lims s → putS s ≠ bytesOf sector := fun s _ e => by
  refine h (by rw [← e, putS_length]) (by rw [← e]; rfl)
def magicS : ByteArray := ⟨#[66, 69, 68, 82, 79, 67, 75, 49]⟩
theorem prefix_calls (sector : ByteArray) (hs : sector.size = 512) (W : World) : Calls Tryd.prog 28 #[.string sector, .string ⟨#[66, 69, 68, 82, 79, 67, 75, 49]⟩] W fun e w' => e = .returned (.bool (decide ((bytesOf sector).take 8 = magic))) ∧ Below W.heap.size W w' := by
  refine (PRegionKnown.strings_HasPrefix.calls sector magicS (decide ((bytesOf sector).take 8 = magic)) W ?_).mono fun e w' h => ⟨h.1, h.2.below⟩
  unfold PRegionKnown.strings_HasPrefix.f PRegionKnown.stringslite_HasPrefix.f
  have e8 : (magicS.size : Int) = 8 := rfl
  rw [e8, hs, if_pos (by decide), if_pos (by decide), if_pos (by decide)]
  simp only [Option.bind_some]
  have hx : bytesOf (sector.extract 0 (8 : Int).toNat) = (bytesOf sector).take 8 := by
    rw [BS.bytesOf_extract]; rfl
  have hm : bytesOf magicS = magic := by decide
  by_cases h : (bytesOf sector).take 8 = magic
  · rw [decide_eq_true h, BS.beq_of (BS.bytesOf_inj (by rw [hx, hm, h]))]
  · rw [decide_eq_false h, BS.beq_not (fun e => h (by rw [← hx, e, hm]))]
theorem results_cell2 {fn : Func} {t u : Tmp} {ty : TypeId} {a : Addr} {v : Value} (h : fn.results = #[.cell t ty, .tmp u]) (tmps : Array Value) (w : World) (ha : tmps.getD t undef = .pointer (some a)) (hl : (loadVar ty a).run Tryd.prog w = .ok v w) :
    (results fn tmps).run Tryd.prog w = .ok (.tuple #[v, tmps.getD u undef]) w := by
  have ha' : tmps[t]?.getD undef = .pointer (some a) := by simpa using ha
  simp [results, h, ha', hl, asAddr]
theorem newstrQ_calls (t : ByteArray) (W : World) (ht : t.size ≤ 140737488355328) :
    Calls Tryd.prog 29 #[.slice (some ⟨W.heap.size, 0, none⟩) t.size (grownCap W t.size 0 5)] (bw W t) fun e w' => ∃ g, e = .returned (.pointer (some ⟨g, 0, none⟩)) ∧ (bw W t).heap.size ≤ g ∧ BQ.Rdr (fun k => (bw W t).heap.size ≤ k ∧ k < g) w' g (bytesOf t) false ∧ Below (bw W t).heap.size (bw W t) w' := by
  have h := BQ.new_calls (some ⟨W.heap.size, 0, none⟩) (grownCap W t.size 0 5) (bytesOf t) (bw W t) (bw_reads W t (by omega)) (by rw [bytesOf_length]; exact grownCap_ge _ _ _ _) (BS.bytes_bytesOf t) (by rw [bytesOf_length]; exact ht)
  rw [bytesOf_length] at h
  exact h
set_option maxHeartbeats 8000000 in
theorem getSuper_calls (sector : ByteArray) (w : World) (ht : CK.Tab w) (h0 : 0 < w.heap.size) :
    Calls Tryd.prog 8 #[.string sector] w fun e w' => Gets sector w e w' := by
  have HT := Lib.hid ht
  have H0 := Lib.hid h0
  clear ht h0
  go_enter Tryd.func8, Tryd.ntmps8
  go_upto_region 1 with fail
  have HA := Lib.hid (SupAt.new w zeroS)
  have HBa := Lib.hid (below_alloc (Below.refl w.heap.size w) (.cells (supC zeroS).toArray 33))
  obtain ⟨W1, hW1⟩ : ∃ W, w.alloc (.cells (supC zeroS).toArray 33) = W := ⟨_, rfl⟩
  rw [hW1] at HA HBa
  rw [show w.alloc (.cells #[.int .i64 0, .int .i64 0, .int .u64 0, .int .i64 0, .int .i64 0, .int .i64 0, .bool false, .int .i64 0, .int .i64 0, .int .i64 0, .bool false, .int .i64 0, .int .i64 0, .int .i64 0, .int .i64 0, .int .i64 0, .int .i64 0, .int .i64 0] 33) = W1 from hW1]
  clear hW1
  obtain ⟨R, hR⟩ : ∃ R, w.heap.size = R := ⟨_, rfl⟩
  have HRb := Lib.hid hR
  rw [hR] at HA
  rw [hR]
  clear hR
  by_cases hl : sector.size = 512
  · have HL := Lib.hid hl
    have HPre := Lib.hid (fun W => prefix_calls sector hl W)
    have hn1 : ((sector.size : Int) != 512) = false := by rw [hl]; rfl
    go_wp2_with fail
    refine (HPre.out _).mono ?_; rintro e w2 ⟨rfl, hb2⟩
    by_cases hm : (bytesOf sector).take 8 = magic
    · have hdm := decide_eq_true hm
      have hts : (sector.extract 8 512).size = 504 := by
        rw [← BS.size_bytesOf, BS.bytesOf_extract, List.length_drop, List.length_take, BS.size_bytesOf, hl]; rfl
      have HX := Lib.hid (show bytesOf (sector.extract 8 512) = (bytesOf sector).drop 8 by rw [BS.bytesOf_extract, List.take_of_length_le (by rw [BS.size_bytesOf, hl]; exact Nat.le_refl _)])
      have HNew := Lib.hid (newstrQ_calls (sector.extract 8 512) w2 (by rw [hts]; omega))
      have hcv := bytes_run (sector.extract 8 512) w2
      have HA2 := Lib.hid ((HA.out.below hb2 HA.out.lt).below (bw_below w2 (sector.extract 8 512)) (HA.out.below hb2 HA.out.lt).lt)
      have HB3 := Lib.hid (below_step (below_step HBa.out hb2) (bw_below w2 (sector.extract 8 512)))
      have HM := Lib.hid hm
      rw [hts] at HNew hcv
      obtain ⟨w0, hw0⟩ : ∃ w0, bw w2 (sector.extract 8 512) = w0 := ⟨_, rfl⟩
      obtain ⟨c3, hc3⟩ : ∃ c, grownCap w2 504 0 5 = c := ⟨_, rfl⟩
      obtain ⟨X, hX⟩ : ∃ X, bytesOf (sector.extract 8 512) = X := ⟨_, rfl⟩
      rw [hw0, hc3, hX] at HNew
      rw [hw0, hc3] at hcv
      rw [hw0] at HA2 HB3
      rw [hX] at HX
      clear hts hm hb2 hw0 hc3 hX
      go_wp2_with fail
      refine HNew.out.mono ?_; rintro e w4 ⟨g, rfl, hg, hr4, hb4⟩
      have hnx0 : Nx w0 (w4.alloc (.cells #[.pointer (some ⟨g, 0, none⟩)] 71)) w4.heap.size g (X, false) := ⟨hr4.below (below_alloc (Below.refl _ _) _), blk_new _ _, below_alloc hb4 _, hg, hr4.lt⟩
      have HNX := Lib.hid hnx0
      clear hr4 hg hb4 hnx0 hcv
      go_upto_region 5 with fail
      obtain ⟨W5, hW5⟩ : ∃ W, w4.alloc (.cells #[.pointer (some ⟨g, 0, none⟩)] 71) = W := ⟨_, rfl⟩
      obtain ⟨C, hC⟩ : ∃ C, w4.heap.size = C := ⟨_, rfl⟩
      rw [hW5, hC] at HNX
      rw [hW5, hC]
      clear hW5 hC HNew HA HBa
      go_wp2_with fail
      refine (nextSuper_calls w0 C g _ _ HNX.out).mono ?_; rintro e w6 ⟨rfl, hn6, hg6⟩
      obtain ⟨q1, hq1⟩ : ∃ q, rNext (X, false) = q := ⟨_, rfl⟩
      rw [hq1] at hn6 ⊢
      have HQ1 := Lib.hid hq1
      have HNX6 := Lib.hid hn6
      clear hn6 hg6 hq1 hl hn1 HPre
      go_upto_region 6 with fail
      have HS1 : Hid (SupAt (w6.alloc (.cells (supC ⟨q1.1, 0, 0, zeroA, zeroA, 0, 0, 0, 0, 0, 0, 0⟩).toArray 33)) w6.heap.size ⟨q1.1, 0, 0, zeroA, zeroA, 0, 0, 0, 0, 0, 0, 0⟩) := Lib.hid (SupAt.new w6 _)
      have HNX7 := Lib.hid (HNX6.out.under (below_alloc (Below.refl w6.heap.size w6) (.cells (supC ⟨q1.1, 0, 0, zeroA, zeroA, 0, 0, 0, 0, 0, 0, 0⟩).toArray 33)))
      obtain ⟨W7, hW7⟩ : ∃ W, w6.alloc (.cells (supC ⟨q1.1, 0, 0, zeroA, zeroA, 0, 0, 0, 0, 0, 0, 0⟩).toArray 33) = W := ⟨_, rfl⟩
      have hCG := HNX6.out.lt
      rw [hW7] at HS1 HNX7
      rw [show w6.alloc (.cells #[.int .i64 q1.1, .int .i64 0, .int .u64 0, .int .i64 0, .int .i64 0, .int .i64 0, .bool false, .int .i64 0, .int .i64 0, .int .i64 0, .bool false, .int .i64 0, .int .i64 0, .int .i64 0, .int .i64 0, .int .i64 0, .int .i64 0, .int .i64 0] 33) = W7 from hW7]
      obtain ⟨G, hG⟩ : ∃ G, w6.heap.size = G := ⟨_, rfl⟩
      rw [hG] at HS1 hCG
      rw [hG]
      have HG7 : Hid (GS w0 W7 C g G q1.2 ⟨q1.1, 0, 0, zeroA, zeroA, 0, 0, 0, 0, 0, 0, 0⟩) := Lib.hid ⟨HNX7.out, HS1.out, hCG⟩
      clear hW7 hG hCG HS1 HNX7 HNX6 HNX
      have b7 := blk_cell HG7.out.nx.cell 0
      simp only [List.getElem?_toArray, List.getElem?_cons_succ, List.getElem?_cons_zero] at b7
      go_wp2_with fail
      refine (numQ_calls w0 C g q1.2 _ HG7.out.nx).mono ?_; rintro e w8 ⟨rfl, hn8, hg8⟩
      have HLT := Lib.hid (rNum_lt q1.2 HG7.out.nx.rdr.bytes)
      obtain ⟨q2, hq2⟩ : ∃ q, rNum q1.2 = q := ⟨_, rfl⟩
      rw [hq2] at hn8 HLT ⊢
      have HQ2 := Lib.hid hq2
      have HG8 := Lib.hid (HG7.out.read hn8 hg8)
      clear hn8 hg8 hq2 b7
      obtain ⟨c0, c1, c2, c3, c4, c5, c6, c7, c8, c9, c10, c11, c12, c13, c14, c15, c16, c17⟩ := HG8.out.sup.cells
      have f2 := blk_frozen HG8.out.sup 2
      go_upto_region 7 with fail
      have HG9 := Lib.hid (HG8.out.set 2 (.int .u64 (q2.1 : Int)) (s' := ⟨q1.1, q2.1, 0, zeroA, zeroA, 0, 0, 0, 0, 0, 0, 0⟩) rfl)
      obtain ⟨W9, hW9⟩ : ∃ W, w8.setCell ⟨G, 2, none⟩ (.int .u64 (q2.1 : Int)) = W := ⟨_, rfl⟩
      rw [hW9] at HG9
      rw [hW9]
      clear hW9 c0 c1 c2 c3 c4 c5 c6 c7 c8 c9 c10 c11 c12 c13 c14 c15 c16 c17 f2
      go_wp2_with fail
      refine (nextSuper_calls w0 C g q2.2 _ HG9.out.nx).mono ?_; rintro e w10 ⟨rfl, hn10, hg10⟩
      obtain ⟨q3, hq3⟩ : ∃ q, rNext q2.2 = q := ⟨_, rfl⟩
      rw [hq3] at hn10 ⊢
      have HQ3 := Lib.hid hq3
      have HG10 := Lib.hid (HG9.out.read hn10 hg10)
      clear hn10 hg10 hq3
      obtain ⟨c0, c1, c2, c3, c4, c5, c6, c7, c8, c9, c10, c11, c12, c13, c14, c15, c16, c17⟩ := HG10.out.sup.cells
      have f1 := blk_frozen HG10.out.sup 1
      go_upto_region 8 with fail
      have HG11 := Lib.hid (HG10.out.set 1 (.int .i64 q3.1) (s' := ⟨q1.1, q2.1, q3.1, zeroA, zeroA, 0, 0, 0, 0, 0, 0, 0⟩) rfl)
      obtain ⟨W11, hW11⟩ : ∃ W, w10.setCell ⟨G, 1, none⟩ (.int .i64 q3.1) = W := ⟨_, rfl⟩
      rw [hW11] at HG11
      rw [hW11]
      clear hW11 c0 c1 c2 c3 c4 c5 c6 c7 c8 c9 c10 c11 c12 c13 c14 c15 c16 c17 f1
      obtain ⟨a, ha⟩ : ∃ a, q1.1 = a := ⟨_, rfl⟩
      obtain ⟨b, hb⟩ : ∃ b, q2.1 = b := ⟨_, rfl⟩
      obtain ⟨c, hc⟩ : ∃ c, q3.1 = c := ⟨_, rfl⟩
      obtain ⟨t, ht⟩ : ∃ t, q3.2 = t := ⟨_, rfl⟩
      rw [ha, hb, hc, ht] at HG11
      rw [hb] at HLT
      have Ha := Lib.hid ha
      have Hb := Lib.hid hb
      have Hc := Lib.hid hc
      have Ht := Lib.hid ht
      clear ha hb hc ht
      go_wp2_with fail
      go_loopw [37] (fun iv W => ∃ i : Nat, i ≤ 2 ∧ iv = .int .i64 (i : Int) ∧ Aside0 (GS w0 W C g G (stI t i) (supI a b c t i))) (fun iv _ => 2 - (intOf iv).toNat)
      case atStart => exact ⟨0, by omega, rfl, ⟨HG11.out⟩⟩
      case round =>
        obtain ⟨i, hi, rfl, ⟨hp⟩⟩ := hrel
        have hi3 : i = 0 ∨ i = 1 ∨ i = 2 := by omega
        rcases hi3 with rfl | rfl | rfl
        ·
          have hp0 : GS w0 wr C g G t ⟨a, b, c, zeroA, zeroA, 0, 0, 0, 0, 0, 0, 0⟩ := hp
          obtain ⟨t0, ht0⟩ : ∃ s, t = s := ⟨_, rfl⟩
          rw [ht0] at hp0
          have HT0 := Lib.hid ht0
          clear ht0
          have HG0 := Lib.hid hp0
          clear hp hp0
          go_wp2_with fail
          refine (nextSuper_calls w0 C g t0 _ HG0.out.nx).mono ?_; rintro e wa ⟨rfl, hna, hga⟩
          obtain ⟨o, ho⟩ : ∃ q, rNext t0 = q := ⟨_, rfl⟩
          rw [ho] at hna ⊢
          have HEo := Lib.hid ho
          have HGa := Lib.hid (HG0.out.read hna hga)
          clear ho hna hga
          have ba := blk_cell HGa.out.nx.cell 0
          simp only [List.getElem?_toArray, List.getElem?_cons_succ, List.getElem?_cons_zero] at ba
          go_upto_region 12 with fail
          refine start_ (n := 15) (S := fun w' => w'.cell? ⟨C, 0, none⟩ = some (.pointer (some ⟨g, 0, none⟩))) (ds := [14]) #[false, false, false, false, false, false, false, false, false, false, false, false, false, false, false] (by kernel_rfl) rfl rfl (ba) (fun hHeld => ?_)
          refine pure_ (i := 0) (N := some 42) (v := ?_) (a' := ?_) #[true, false, false, false, false, false, false, false, false, false, false, false, false, false, false] rfl rfl (by kernel_rfl) (fun _ _ _ h => h) (Or.inl ⟨by rfl, ?_⟩) ?_ ?_
          rotate_left
          · intro w'
            go_simp
            with_reducible rfl
          rotate_left
          · simp only [Act.put, List.setIfInBounds_toArray, List.set_cons_zero, List.set_cons_succ, i64_w, i32_w]
            rfl
          refine pure_ (i := 1) (N := some 43) (v := ?_) (a' := ?_) #[true, true, false, false, false, false, false, false, false, false, false, false, false, false, false] rfl rfl (by kernel_rfl) (fun _ _ _ h => h) (Or.inl ⟨by rfl, ?_⟩) ?_ ?_
          rotate_left
          · intro w'
            go_simp
            with_reducible rfl
          rotate_left
          · simp only [Act.put, List.setIfInBounds_toArray, List.set_cons_zero, List.set_cons_succ, i64_w, i32_w]
            rfl
          refine pure_ (i := 2) (N := some 44) (v := ?_) (a' := ?_) #[true, true, true, false, false, false, false, false, false, false, false, false, false, false, false] rfl rfl (by kernel_rfl) (fun _ _ _ h => h) (Or.inl ⟨by rfl, ?_⟩) ?_ ?_
          rotate_left
          · intro w'
            go_simp
            with_reducible rfl
          rotate_left
          · simp only [Act.put, List.setIfInBounds_toArray, List.set_cons_zero, List.set_cons_succ, i64_w, i32_w]
            rfl
          refine pure_ (i := 11) (N := some 53) (v := ?_) (a' := ?_) #[true, true, true, false, false, false, false, false, false, false, false, true, false, false, false] rfl rfl (by kernel_rfl) (fun _ _ _ h => h) (Or.inl ⟨by rfl, ?_⟩) ?_ ?_
          rotate_left
          · intro w'
            go_simp
            with_reducible rfl
          rotate_left
          · simp only [Act.put, List.setIfInBounds_toArray, List.set_cons_zero, List.set_cons_succ, i64_w, i32_w]
            rfl
          refine pure_ (i := 12) (N := some 54) (v := ?_) (a' := ?_) #[true, true, true, false, false, false, false, false, false, false, false, true, true, false, false] rfl rfl (by kernel_rfl) (fun _ _ _ h => h) (Or.inl ⟨by rfl, ?_⟩) ?_ ?_
          rotate_left
          · intro w'
            go_simp
            with_reducible rfl
          rotate_left
          · simp only [Act.put, List.setIfInBounds_toArray, List.set_cons_zero, List.set_cons_succ, i64_w, i32_w]
            rfl
          refine take_ (i := 3) (N := some 45) (v := ?_) (a' := ?_) #[true, true, true, true, false, false, false, false, false, false, false, true, true, false, false] rfl rfl (by kernel_rfl) (fun _ _ _ h => h) (Or.inl ⟨by rfl, ?_⟩) hHeld ?_ ?_
          rotate_left
          · intro w' s0
            go_simp
            with_reducible rfl
          rotate_left
          · simp only [Act.put, List.setIfInBounds_toArray, List.set_cons_zero, List.set_cons_succ, i64_w, i32_w]
            rfl
          refine take_ (i := 5) (N := some 47) (v := ?_) (a' := ?_) #[true, true, true, true, false, true, false, false, false, false, false, true, true, false, false] rfl rfl (by kernel_rfl) (fun _ _ _ h => h) (Or.inl ⟨by rfl, ?_⟩) hHeld ?_ ?_
          rotate_left
          · intro w' s0
            go_simp
            with_reducible rfl
          rotate_left
          · simp only [Act.put, List.setIfInBounds_toArray, List.set_cons_zero, List.set_cons_succ, i64_w, i32_w]
            rfl
          refine take_ (i := 7) (N := some 49) (v := ?_) (a' := ?_) #[true, true, true, true, false, true, false, true, false, false, false, true, true, false, false] rfl rfl (by kernel_rfl) (fun _ _ _ h => h) (Or.inl ⟨by rfl, ?_⟩) hHeld ?_ ?_
          rotate_left
          · intro w' s0
            go_simp
            with_reducible rfl
          rotate_left
          · simp only [Act.put, List.setIfInBounds_toArray, List.set_cons_zero, List.set_cons_succ, i64_w, i32_w]
            rfl
          refine one_ (i := 4) (N := some 46) #[true, true, true, true, true, true, false, true, false, false, false, true, true, false, false] rfl rfl (by kernel_rfl) (by decide) (fun K hK => ?_)
          refine goes_ Tryd.func33 (by kernel_rfl) rfl #[.pointer (some ⟨g, 0, none⟩)] (by rfl) rfl rfl (by simp only [List.map_toArray, List.map_cons, List.map_nil]; rfl) ?_
          with_reducible refine (intQ_calls w0 C g o.2 _ (HGa.out.under (below_drew (Below.refl _ _))).nx).mono ?_
          rintro e wx ⟨rfl, hnx, hgx⟩
          refine ⟨_, rfl, ?_⟩
          obtain ⟨x, hx⟩ : ∃ q, rInt' o.2 = q := ⟨_, rfl⟩
          rw [hx] at hnx ⊢
          have HEx := Lib.hid hx
          have HGx := Lib.hid ((HGa.out.under (below_drew (Below.refl _ _))).read hnx hgx)
          have bbx := blk_cell HGx.out.nx.cell 0
          simp only [List.getElem?_toArray, List.getElem?_cons_succ, List.getElem?_cons_zero] at bbx
          clear hx hnx hgx
          refine hK.out _ _ (bbx) (fun hHeld => ?_)
          clear hK K
          refine norm_ (a' := ?_) ?_ ?_
          rotate_left
          · show Act.put _ (some 46) _ = _
            simp only [Act.put, List.setIfInBounds_toArray, List.set_cons_zero, List.set_cons_succ, i64_w, i32_w]
            rfl
          refine one_ (i := 6) (N := some 48) #[true, true, true, true, true, true, true, true, false, false, false, true, true, false, false] rfl rfl (by kernel_rfl) (by decide) (fun K hK => ?_)
          refine goes_ Tryd.func33 (by kernel_rfl) rfl #[.pointer (some ⟨g, 0, none⟩)] (by rfl) rfl rfl (by simp only [List.map_toArray, List.map_cons, List.map_nil]; rfl) ?_
          with_reducible refine (intQ_calls w0 C g x.2 _ HGx.out.nx).mono ?_
          rintro e wy ⟨rfl, hny, hgy⟩
          refine ⟨_, rfl, ?_⟩
          obtain ⟨y, hy⟩ : ∃ q, rInt' x.2 = q := ⟨_, rfl⟩
          rw [hy] at hny ⊢
          have HEy := Lib.hid hy
          have HGy := Lib.hid (HGx.out.read hny hgy)
          have bby := blk_cell HGy.out.nx.cell 0
          simp only [List.getElem?_toArray, List.getElem?_cons_succ, List.getElem?_cons_zero] at bby
          clear hy hny hgy
          refine hK.out _ _ (bby) (fun hHeld => ?_)
          clear hK K
          refine norm_ (a' := ?_) ?_ ?_
          rotate_left
          · show Act.put _ (some 48) _ = _
            simp only [Act.put, List.setIfInBounds_toArray, List.set_cons_zero, List.set_cons_succ, i64_w, i32_w]
            rfl
          refine one_ (i := 8) (N := some 50) #[true, true, true, true, true, true, true, true, true, false, false, true, true, false, false] rfl rfl (by kernel_rfl) (by decide) (fun K hK => ?_)
          refine goes_ Tryd.func33 (by kernel_rfl) rfl #[.pointer (some ⟨g, 0, none⟩)] (by rfl) rfl rfl (by simp only [List.map_toArray, List.map_cons, List.map_nil]; rfl) ?_
          with_reducible refine (intQ_calls w0 C g y.2 _ HGy.out.nx).mono ?_
          rintro e wz ⟨rfl, hnz, hgz⟩
          refine ⟨_, rfl, ?_⟩
          obtain ⟨z, hz⟩ : ∃ q, rInt' y.2 = q := ⟨_, rfl⟩
          rw [hz] at hnz ⊢
          have HEz := Lib.hid hz
          have HGz := Lib.hid (HGy.out.read hnz hgz)
          have bbz := blk_cell HGz.out.nx.cell 0
          simp only [List.getElem?_toArray, List.getElem?_cons_succ, List.getElem?_cons_zero] at bbz
          clear hz hnz hgz
          obtain ⟨c0, c1, c2, c3, c4, c5, c6, c7, c8, c9, c10, c11, c12, c13, c14, c15, c16, c17⟩ := HGz.out.sup.cells
          have f3 := blk_frozen HGz.out.sup 3
          have f4 := blk_frozen HGz.out.sup 4
          have f5 := blk_frozen HGz.out.sup 5
          have f6 := blk_frozen HGz.out.sup 6
          refine hK.out _ _ (bbz) (fun hHeld => ?_)
          clear hK K
          refine norm_ (a' := ?_) ?_ ?_
          rotate_left
          · show Act.put _ (some 50) _ = _
            simp only [Act.put, List.setIfInBounds_toArray, List.set_cons_zero, List.set_cons_succ, i64_w, i32_w]
            rfl
          refine pure_ (i := 9) (N := some 51) (v := ?_) (a' := ?_) #[true, true, true, true, true, true, true, true, true, true, false, true, true, false, false] rfl rfl (by kernel_rfl) (fun _ _ _ h => h) (Or.inl ⟨by rfl, ?_⟩) ?_ ?_
          rotate_left
          · intro w'
            go_simp
            with_reducible rfl
          rotate_left
          · simp only [Act.put, List.setIfInBounds_toArray, List.set_cons_zero, List.set_cons_succ, i64_w, i32_w]
            rfl
          refine pure_ (i := 10) (N := some 52) (v := ?_) (a' := ?_) #[true, true, true, true, true, true, true, true, true, true, true, true, true, false, false] rfl rfl (by kernel_rfl) (fun _ _ _ h => h) (Or.inl ⟨by rfl, ?_⟩) ?_ ?_
          rotate_left
          · intro w'
            go_simp
            with_reducible rfl
          rotate_left
          · simp only [Act.put, List.setIfInBounds_toArray, List.set_cons_zero, List.set_cons_succ, i64_w, i32_w]
            rfl
          refine pure_ (i := 13) (N := some 55) (v := ?_) (a' := ?_) #[true, true, true, true, true, true, true, true, true, true, true, true, true, true, false] rfl rfl (by kernel_rfl) (fun _ _ _ h => h) (Or.inl ⟨by rfl, ?_⟩) ?_ ?_
          rotate_left
          · intro w'
            go_simp
            with_reducible rfl
          rotate_left
          · simp only [Act.put, List.setIfInBounds_toArray, List.set_cons_zero, List.set_cons_succ, i64_w, i32_w]
            rfl
          refine last_ (i := 14) (N := none) #[true, true, true, true, true, true, true, true, true, true, true, true, true, true, true] rfl rfl (by kernel_rfl) (by decide) (fun K hK => ?_)
          refine skip_ (w1 := ?_) (by rfl) rfl ?_ ?_
          rotate_left
          · go_simp
            rfl
          refine hK.out _ _ ?_
          clear hK K
          refine done_ (by kernel_rfl) ?_
          have K1 := HGz.out.set 3 (.int .i64 x.1) (s' := (⟨a, b, c, ⟨zeroA.on, x.1, zeroA.y, zeroA.z⟩, zeroA, 0, 0, 0, 0, 0, 0, 0⟩ : Sup)) rfl
          have K2 := K1.set 4 (.int .i64 y.1) (s' := (⟨a, b, c, ⟨zeroA.on, x.1, y.1, zeroA.z⟩, zeroA, 0, 0, 0, 0, 0, 0, 0⟩ : Sup)) rfl
          have K3 := K2.set 5 (.int .i64 z.1) (s' := (⟨a, b, c, ⟨zeroA.on, x.1, y.1, z.1⟩, zeroA, 0, 0, 0, 0, 0, 0, 0⟩ : Sup)) rfl
          have K4 := K3.set 6 (.bool (o.1 == 1)) (s' := (⟨a, b, c, ⟨(decide (o.1 = 1)), x.1, y.1, z.1⟩, zeroA, 0, 0, 0, 0, 0, 0, 0⟩ : Sup)) rfl
          have HK4 := Lib.hid K4
          clear K1 K2 K3 K4 ba
          have HRA : Hid (readA t0 = (⟨decide (o.1 = 1), x.1, y.1, z.1⟩, z.2)) := Lib.hid (by unfold readA; simp only [HEo.out, HEx.out, HEy.out, HEz.out])
          go_wp2_with fail
          go_roundw
          case rel => exact ⟨1, by omega, rfl, ⟨by show GS w0 _ C g G (readA t).2 ⟨a, b, c, (readA t).1, zeroA, 0, 0, 0, 0, 0, 0, 0⟩; rw [HT0.out, HRA.out]; exact HK4.out⟩⟩
          case measure => simp [intOf]
        ·
          have hp0 : GS w0 wr C g G (readA t).2 ⟨a, b, c, (readA t).1, zeroA, 0, 0, 0, 0, 0, 0, 0⟩ := hp
          obtain ⟨A0, hA0⟩ : ∃ A, (readA t).1 = A := ⟨_, rfl⟩
          obtain ⟨t0, ht0⟩ : ∃ s, (readA t).2 = s := ⟨_, rfl⟩
          rw [hA0, ht0] at hp0
          have HA0 := Lib.hid hA0
          have HT0 := Lib.hid ht0
          clear hA0 ht0
          have HG0 := Lib.hid hp0
          clear hp hp0
          go_wp2_with fail
          refine (nextSuper_calls w0 C g t0 _ HG0.out.nx).mono ?_; rintro e wa ⟨rfl, hna, hga⟩
          obtain ⟨o, ho⟩ : ∃ q, rNext t0 = q := ⟨_, rfl⟩
          rw [ho] at hna ⊢
          have HEo := Lib.hid ho
          have HGa := Lib.hid (HG0.out.read hna hga)
          clear ho hna hga
          have ba := blk_cell HGa.out.nx.cell 0
          simp only [List.getElem?_toArray, List.getElem?_cons_succ, List.getElem?_cons_zero] at ba
          go_upto_region 12 with fail
          refine start_ (n := 15) (S := fun w' => w'.cell? ⟨C, 0, none⟩ = some (.pointer (some ⟨g, 0, none⟩))) (ds := [14]) #[false, false, false, false, false, false, false, false, false, false, false, false, false, false, false] (by kernel_rfl) rfl rfl (ba) (fun hHeld => ?_)
          refine pure_ (i := 0) (N := some 42) (v := ?_) (a' := ?_) #[true, false, false, false, false, false, false, false, false, false, false, false, false, false, false] rfl rfl (by kernel_rfl) (fun _ _ _ h => h) (Or.inl ⟨by rfl, ?_⟩) ?_ ?_
          rotate_left
          · intro w'
            go_simp
            with_reducible rfl
          rotate_left
          · simp only [Act.put, List.setIfInBounds_toArray, List.set_cons_zero, List.set_cons_succ, i64_w, i32_w]
            rfl
          refine pure_ (i := 1) (N := some 43) (v := ?_) (a' := ?_) #[true, true, false, false, false, false, false, false, false, false, false, false, false, false, false] rfl rfl (by kernel_rfl) (fun _ _ _ h => h) (Or.inl ⟨by rfl, ?_⟩) ?_ ?_
          rotate_left
          · intro w'
            go_simp
            with_reducible rfl
          rotate_left
          · simp only [Act.put, List.setIfInBounds_toArray, List.set_cons_zero, List.set_cons_succ, i64_w, i32_w]
            rfl
          refine pure_ (i := 2) (N := some 44) (v := ?_) (a' := ?_) #[true, true, true, false, false, false, false, false, false, false, false, false, false, false, false] rfl rfl (by kernel_rfl) (fun _ _ _ h => h) (Or.inl ⟨by rfl, ?_⟩) ?_ ?_
          rotate_left
          · intro w'
            go_simp
            with_reducible rfl
          rotate_left
          · simp only [Act.put, List.setIfInBounds_toArray, List.set_cons_zero, List.set_cons_succ, i64_w, i32_w]
            rfl
          refine pure_ (i := 11) (N := some 53) (v := ?_) (a' := ?_) #[true, true, true, false, false, false, false, false, false, false, false, true, false, false, false] rfl rfl (by kernel_rfl) (fun _ _ _ h => h) (Or.inl ⟨by rfl, ?_⟩) ?_ ?_
          rotate_left
          · intro w'
            go_simp
            with_reducible rfl
          rotate_left
          · simp only [Act.put, List.setIfInBounds_toArray, List.set_cons_zero, List.set_cons_succ, i64_w, i32_w]
            rfl
          refine pure_ (i := 12) (N := some 54) (v := ?_) (a' := ?_) #[true, true, true, false, false, false, false, false, false, false, false, true, true, false, false] rfl rfl (by kernel_rfl) (fun _ _ _ h => h) (Or.inl ⟨by rfl, ?_⟩) ?_ ?_
          rotate_left
          · intro w'
            go_simp
            with_reducible rfl
          rotate_left
          · simp only [Act.put, List.setIfInBounds_toArray, List.set_cons_zero, List.set_cons_succ, i64_w, i32_w]
            rfl
          refine take_ (i := 3) (N := some 45) (v := ?_) (a' := ?_) #[true, true, true, true, false, false, false, false, false, false, false, true, true, false, false] rfl rfl (by kernel_rfl) (fun _ _ _ h => h) (Or.inl ⟨by rfl, ?_⟩) hHeld ?_ ?_
          rotate_left
          · intro w' s0
            go_simp
            with_reducible rfl
          rotate_left
          · simp only [Act.put, List.setIfInBounds_toArray, List.set_cons_zero, List.set_cons_succ, i64_w, i32_w]
            rfl
          refine take_ (i := 5) (N := some 47) (v := ?_) (a' := ?_) #[true, true, true, true, false, true, false, false, false, false, false, true, true, false, false] rfl rfl (by kernel_rfl) (fun _ _ _ h => h) (Or.inl ⟨by rfl, ?_⟩) hHeld ?_ ?_
          rotate_left
          · intro w' s0
            go_simp
            with_reducible rfl
          rotate_left
          · simp only [Act.put, List.setIfInBounds_toArray, List.set_cons_zero, List.set_cons_succ, i64_w, i32_w]
            rfl
          refine take_ (i := 7) (N := some 49) (v := ?_) (a' := ?_) #[true, true, true, true, false, true, false, true, false, false, false, true, true, false, false] rfl rfl (by kernel_rfl) (fun _ _ _ h => h) (Or.inl ⟨by rfl, ?_⟩) hHeld ?_ ?_
          rotate_left
          · intro w' s0
            go_simp
            with_reducible rfl
          rotate_left
          · simp only [Act.put, List.setIfInBounds_toArray, List.set_cons_zero, List.set_cons_succ, i64_w, i32_w]
            rfl
          refine one_ (i := 4) (N := some 46) #[true, true, true, true, true, true, false, true, false, false, false, true, true, false, false] rfl rfl (by kernel_rfl) (by decide) (fun K hK => ?_)
          refine goes_ Tryd.func33 (by kernel_rfl) rfl #[.pointer (some ⟨g, 0, none⟩)] (by rfl) rfl rfl (by simp only [List.map_toArray, List.map_cons, List.map_nil]; rfl) ?_
          with_reducible refine (intQ_calls w0 C g o.2 _ (HGa.out.under (below_drew (Below.refl _ _))).nx).mono ?_
          rintro e wx ⟨rfl, hnx, hgx⟩
          refine ⟨_, rfl, ?_⟩
          obtain ⟨x, hx⟩ : ∃ q, rInt' o.2 = q := ⟨_, rfl⟩
          rw [hx] at hnx ⊢
          have HEx := Lib.hid hx
          have HGx := Lib.hid ((HGa.out.under (below_drew (Below.refl _ _))).read hnx hgx)
          have bbx := blk_cell HGx.out.nx.cell 0
          simp only [List.getElem?_toArray, List.getElem?_cons_succ, List.getElem?_cons_zero] at bbx
          clear hx hnx hgx
          refine hK.out _ _ (bbx) (fun hHeld => ?_)
          clear hK K
          refine norm_ (a' := ?_) ?_ ?_
          rotate_left
          · show Act.put _ (some 46) _ = _
            simp only [Act.put, List.setIfInBounds_toArray, List.set_cons_zero, List.set_cons_succ, i64_w, i32_w]
            rfl
          refine one_ (i := 6) (N := some 48) #[true, true, true, true, true, true, true, true, false, false, false, true, true, false, false] rfl rfl (by kernel_rfl) (by decide) (fun K hK => ?_)
          refine goes_ Tryd.func33 (by kernel_rfl) rfl #[.pointer (some ⟨g, 0, none⟩)] (by rfl) rfl rfl (by simp only [List.map_toArray, List.map_cons, List.map_nil]; rfl) ?_
          with_reducible refine (intQ_calls w0 C g x.2 _ HGx.out.nx).mono ?_
          rintro e wy ⟨rfl, hny, hgy⟩
          refine ⟨_, rfl, ?_⟩
          obtain ⟨y, hy⟩ : ∃ q, rInt' x.2 = q := ⟨_, rfl⟩
          rw [hy] at hny ⊢
          have HEy := Lib.hid hy
          have HGy := Lib.hid (HGx.out.read hny hgy)
          have bby := blk_cell HGy.out.nx.cell 0
          simp only [List.getElem?_toArray, List.getElem?_cons_succ, List.getElem?_cons_zero] at bby
          clear hy hny hgy
          refine hK.out _ _ (bby) (fun hHeld => ?_)
          clear hK K
          refine norm_ (a' := ?_) ?_ ?_
          rotate_left
          · show Act.put _ (some 48) _ = _
            simp only [Act.put, List.setIfInBounds_toArray, List.set_cons_zero, List.set_cons_succ, i64_w, i32_w]
            rfl
          refine one_ (i := 8) (N := some 50) #[true, true, true, true, true, true, true, true, true, false, false, true, true, false, false] rfl rfl (by kernel_rfl) (by decide) (fun K hK => ?_)
          refine goes_ Tryd.func33 (by kernel_rfl) rfl #[.pointer (some ⟨g, 0, none⟩)] (by rfl) rfl rfl (by simp only [List.map_toArray, List.map_cons, List.map_nil]; rfl) ?_
          with_reducible refine (intQ_calls w0 C g y.2 _ HGy.out.nx).mono ?_
          rintro e wz ⟨rfl, hnz, hgz⟩
          refine ⟨_, rfl, ?_⟩
          obtain ⟨z, hz⟩ : ∃ q, rInt' y.2 = q := ⟨_, rfl⟩
          rw [hz] at hnz ⊢
          have HEz := Lib.hid hz
          have HGz := Lib.hid (HGy.out.read hnz hgz)
          have bbz := blk_cell HGz.out.nx.cell 0
          simp only [List.getElem?_toArray, List.getElem?_cons_succ, List.getElem?_cons_zero] at bbz
          clear hz hnz hgz
          obtain ⟨c0, c1, c2, c3, c4, c5, c6, c7, c8, c9, c10, c11, c12, c13, c14, c15, c16, c17⟩ := HGz.out.sup.cells
          have f7 := blk_frozen HGz.out.sup 7
          have f8 := blk_frozen HGz.out.sup 8
          have f9 := blk_frozen HGz.out.sup 9
          have f10 := blk_frozen HGz.out.sup 10
          refine hK.out _ _ (bbz) (fun hHeld => ?_)
          clear hK K
          refine norm_ (a' := ?_) ?_ ?_
          rotate_left
          · show Act.put _ (some 50) _ = _
            simp only [Act.put, List.setIfInBounds_toArray, List.set_cons_zero, List.set_cons_succ, i64_w, i32_w]
            rfl
          refine pure_ (i := 9) (N := some 51) (v := ?_) (a' := ?_) #[true, true, true, true, true, true, true, true, true, true, false, true, true, false, false] rfl rfl (by kernel_rfl) (fun _ _ _ h => h) (Or.inl ⟨by rfl, ?_⟩) ?_ ?_
          rotate_left
          · intro w'
            go_simp
            with_reducible rfl
          rotate_left
          · simp only [Act.put, List.setIfInBounds_toArray, List.set_cons_zero, List.set_cons_succ, i64_w, i32_w]
            rfl
          refine pure_ (i := 10) (N := some 52) (v := ?_) (a' := ?_) #[true, true, true, true, true, true, true, true, true, true, true, true, true, false, false] rfl rfl (by kernel_rfl) (fun _ _ _ h => h) (Or.inl ⟨by rfl, ?_⟩) ?_ ?_
          rotate_left
          · intro w'
            go_simp
            with_reducible rfl
          rotate_left
          · simp only [Act.put, List.setIfInBounds_toArray, List.set_cons_zero, List.set_cons_succ, i64_w, i32_w]
            rfl
          refine pure_ (i := 13) (N := some 55) (v := ?_) (a' := ?_) #[true, true, true, true, true, true, true, true, true, true, true, true, true, true, false] rfl rfl (by kernel_rfl) (fun _ _ _ h => h) (Or.inl ⟨by rfl, ?_⟩) ?_ ?_
          rotate_left
          · intro w'
            go_simp
            with_reducible rfl
          rotate_left
          · simp only [Act.put, List.setIfInBounds_toArray, List.set_cons_zero, List.set_cons_succ, i64_w, i32_w]
            rfl
          refine last_ (i := 14) (N := none) #[true, true, true, true, true, true, true, true, true, true, true, true, true, true, true] rfl rfl (by kernel_rfl) (by decide) (fun K hK => ?_)
          refine skip_ (w1 := ?_) (by rfl) rfl ?_ ?_
          rotate_left
          · go_simp
            rfl
          refine hK.out _ _ ?_
          clear hK K
          refine done_ (by kernel_rfl) ?_
          have K1 := HGz.out.set 7 (.int .i64 x.1) (s' := (⟨a, b, c, A0, ⟨zeroA.on, x.1, zeroA.y, zeroA.z⟩, 0, 0, 0, 0, 0, 0, 0⟩ : Sup)) rfl
          have K2 := K1.set 8 (.int .i64 y.1) (s' := (⟨a, b, c, A0, ⟨zeroA.on, x.1, y.1, zeroA.z⟩, 0, 0, 0, 0, 0, 0, 0⟩ : Sup)) rfl
          have K3 := K2.set 9 (.int .i64 z.1) (s' := (⟨a, b, c, A0, ⟨zeroA.on, x.1, y.1, z.1⟩, 0, 0, 0, 0, 0, 0, 0⟩ : Sup)) rfl
          have K4 := K3.set 10 (.bool (o.1 == 1)) (s' := (⟨a, b, c, A0, ⟨(decide (o.1 = 1)), x.1, y.1, z.1⟩, 0, 0, 0, 0, 0, 0, 0⟩ : Sup)) rfl
          have HK4 := Lib.hid K4
          clear K1 K2 K3 K4 ba
          have HRA : Hid (readA t0 = (⟨decide (o.1 = 1), x.1, y.1, z.1⟩, z.2)) := Lib.hid (by unfold readA; simp only [HEo.out, HEx.out, HEy.out, HEz.out])
          go_wp2_with fail
          go_roundw
          case rel => exact ⟨2, by omega, rfl, ⟨by show GS w0 _ C g G (readA (readA t).2).2 ⟨a, b, c, (readA t).1, (readA (readA t).2).1, 0, 0, 0, 0, 0, 0, 0⟩; rw [HA0.out, HT0.out, HRA.out]; exact HK4.out⟩⟩
          case measure => simp [intOf]
        · have hp0 : GS w0 wr C g G (readA (readA t).2).2 ⟨a, b, c, (readA t).1, (readA (readA t).2).1, 0, 0, 0, 0, 0, 0, 0⟩ := hp
          obtain ⟨A5, hA5⟩ : ∃ A, readA t = A := ⟨_, rfl⟩
          obtain ⟨B5, hB5⟩ : ∃ B, readA A5.2 = B := ⟨_, rfl⟩
          rw [hA5, hB5] at hp0
          have HA5 := Lib.hid hA5
          have HB5 := Lib.hid hB5
          obtain ⟨t5, ht5⟩ : ∃ s, B5.2 = s := ⟨_, rfl⟩
          rw [ht5] at hp0
          have HT5 := Lib.hid ht5
          have HG5 := Lib.hid hp0
          clear hp hp0 hA5 hB5 ht5
          go_wp2_with fail
          refine (nextSuper_calls w0 C g t5 _ HG5.out.nx).mono ?_; rintro e wd1 ⟨rfl, hnd1, hgd1⟩
          obtain ⟨d1, hd1⟩ : ∃ q, rNext t5 = q := ⟨_, rfl⟩
          rw [hd1] at hnd1 ⊢
          have HEd1 := Lib.hid hd1
          have HGd1 := Lib.hid (HG5.out.read hnd1 hgd1)
          clear hd1 hnd1 hgd1
          go_wp2_with fail
          refine (nextSuper_calls w0 C g d1.2 _ HGd1.out.nx).mono ?_; rintro e wd2 ⟨rfl, hnd2, hgd2⟩
          obtain ⟨d2, hd2⟩ : ∃ q, rNext d1.2 = q := ⟨_, rfl⟩
          rw [hd2] at hnd2 ⊢
          have HEd2 := Lib.hid hd2
          have HGd2 := Lib.hid (HGd1.out.read hnd2 hgd2)
          clear hd2 hnd2 hgd2
          go_wp2_with fail
          refine (nextSuper_calls w0 C g d2.2 _ HGd2.out.nx).mono ?_; rintro e wd3 ⟨rfl, hnd3, hgd3⟩
          obtain ⟨d3, hd3⟩ : ∃ q, rNext d2.2 = q := ⟨_, rfl⟩
          rw [hd3] at hnd3 ⊢
          have HEd3 := Lib.hid hd3
          have HGd3 := Lib.hid (HGd2.out.read hnd3 hgd3)
          clear hd3 hnd3 hgd3
          go_wp2_with fail
          refine (nextSuper_calls w0 C g d3.2 _ HGd3.out.nx).mono ?_; rintro e wd4 ⟨rfl, hnd4, hgd4⟩
          obtain ⟨d4, hd4⟩ : ∃ q, rNext d3.2 = q := ⟨_, rfl⟩
          rw [hd4] at hnd4 ⊢
          have HEd4 := Lib.hid hd4
          have HGd4 := Lib.hid (HGd3.out.read hnd4 hgd4)
          clear hd4 hnd4 hgd4
          obtain ⟨c0, c1, c2, c3, c4, c5, c6, c7, c8, c9, c10, c11, c12, c13, c14, c15, c16, c17⟩ := HGd4.out.sup.cells
          have f11 := blk_frozen HGd4.out.sup 11
          have f12 := blk_frozen HGd4.out.sup 12
          have f13 := blk_frozen HGd4.out.sup 13
          have f14 := blk_frozen HGd4.out.sup 14
          go_upto_region 16 with fail
          have K1 := HGd4.out.set 11 (.int .i64 d1.1) (s' := (⟨a, b, c, A5.1, B5.1, d1.1, 0, 0, 0, 0, 0, 0⟩ : Sup)) rfl
          have K2 := K1.set 12 (.int .i64 d2.1) (s' := (⟨a, b, c, A5.1, B5.1, d1.1, d2.1, 0, 0, 0, 0, 0⟩ : Sup)) rfl
          have K3 := K2.set 13 (.int .i64 d3.1) (s' := (⟨a, b, c, A5.1, B5.1, d1.1, d2.1, d3.1, 0, 0, 0, 0⟩ : Sup)) rfl
          have K4 := K3.set 14 (.int .i64 d4.1) (s' := (⟨a, b, c, A5.1, B5.1, d1.1, d2.1, d3.1, d4.1, 0, 0, 0⟩ : Sup)) rfl
          have HK := Lib.hid K4
          clear K1 K2 K3 K4 c0 c1 c2 c3 c4 c5 c6 c7 c8 c9 c10 c11 c12 c13 c14 c15 c16 c17 f11 f12 f13 f14
          obtain ⟨W8, hW8⟩ : ∃ W, (((wd4.setCell ⟨G, 11, none⟩ (.int .i64 d1.1)).setCell ⟨G, 12, none⟩ (.int .i64 d2.1)).setCell ⟨G, 13, none⟩ (.int .i64 d3.1)).setCell ⟨G, 14, none⟩ (.int .i64 d4.1) = W := ⟨_, rfl⟩
          rw [hW8] at HK
          rw [hW8]
          have HG8 := Lib.hid HK.out
          clear hW8 HK
          go_wp2_with fail
          refine (nextSuper_calls w0 C g d4.2 _ HG8.out.nx).mono ?_; rintro e we1 ⟨rfl, hne1, hge1⟩
          obtain ⟨e1, he1⟩ : ∃ q, rNext d4.2 = q := ⟨_, rfl⟩
          rw [he1] at hne1 ⊢
          have HEe1 := Lib.hid he1
          have HGe1 := Lib.hid (HG8.out.read hne1 hge1)
          clear he1 hne1 hge1
          go_wp2_with fail
          refine (nextSuper_calls w0 C g e1.2 _ HGe1.out.nx).mono ?_; rintro e we2 ⟨rfl, hne2, hge2⟩
          obtain ⟨e2, he2⟩ : ∃ q, rNext e1.2 = q := ⟨_, rfl⟩
          rw [he2] at hne2 ⊢
          have HEe2 := Lib.hid he2
          have HGe2 := Lib.hid (HGe1.out.read hne2 hge2)
          clear he2 hne2 hge2
          go_wp2_with fail
          refine (nextSuper_calls w0 C g e2.2 _ HGe2.out.nx).mono ?_; rintro e we3 ⟨rfl, hne3, hge3⟩
          obtain ⟨e3, he3⟩ : ∃ q, rNext e2.2 = q := ⟨_, rfl⟩
          rw [he3] at hne3 ⊢
          have HEe3 := Lib.hid he3
          have HGe3 := Lib.hid (HGe2.out.read hne3 hge3)
          clear he3 hne3 hge3
          obtain ⟨c0, c1, c2, c3, c4, c5, c6, c7, c8, c9, c10, c11, c12, c13, c14, c15, c16, c17⟩ := HGe3.out.sup.cells
          have f15 := blk_frozen HGe3.out.sup 15
          have f16 := blk_frozen HGe3.out.sup 16
          have f17 := blk_frozen HGe3.out.sup 17
          go_upto_region 17 with fail
          have K1 := HGe3.out.set 15 (.int .i64 e1.1) (s' := (⟨a, b, c, A5.1, B5.1, d1.1, d2.1, d3.1, d4.1, e1.1, 0, 0⟩ : Sup)) rfl
          have K2 := K1.set 16 (.int .i64 e2.1) (s' := (⟨a, b, c, A5.1, B5.1, d1.1, d2.1, d3.1, d4.1, e1.1, e2.1, 0⟩ : Sup)) rfl
          have K3 := K2.set 17 (.int .i64 e3.1) (s' := (⟨a, b, c, A5.1, B5.1, d1.1, d2.1, d3.1, d4.1, e1.1, e2.1, e3.1⟩ : Sup)) rfl
          have HK := Lib.hid K3
          clear K1 K2 K3 c0 c1 c2 c3 c4 c5 c6 c7 c8 c9 c10 c11 c12 c13 c14 c15 c16 c17 f15 f16 f17
          obtain ⟨W9, hW9⟩ : ∃ W, ((we3.setCell ⟨G, 15, none⟩ (.int .i64 e1.1)).setCell ⟨G, 16, none⟩ (.int .i64 e2.1)).setCell ⟨G, 17, none⟩ (.int .i64 e3.1) = W := ⟨_, rfl⟩
          rw [hW9] at HK
          rw [hW9]
          have HG9 := Lib.hid HK.out
          clear hW9 HK
          have HRS : Hid (readS X = (⟨a, b, c, A5.1, B5.1, d1.1, d2.1, d3.1, d4.1, e1.1, e2.1, e3.1⟩ : Sup)) := Lib.hid (by
            unfold readS
            simp only [HQ1.out, HQ2.out, HQ3.out, Ht.out, HA5.out, HB5.out, HT5.out, HEd1.out, HEd2.out, HEd3.out, HEd4.out, HEe1.out, HEe2.out, HEe3.out, Ha.out, Hb.out, Hc.out])
          obtain ⟨s, hs⟩ : ∃ s, (⟨a, b, c, A5.1, B5.1, d1.1, d2.1, d3.1, d4.1, e1.1, e2.1, e3.1⟩ : Sup) = s := ⟨_, rfl⟩
          have HSD : Hid (s.seed < 18446744073709551616) := Lib.hid (by rw [← hs]; exact HLT.out)
          rw [hs] at HG9 HRS
          clear hs
          have HBW : Hid (Below w.heap.size w W9) := Lib.hid (below_step HB3.out HG9.out.nx.below)
          have HAR := Lib.hid (HA2.out.below HG9.out.nx.below HA2.out.lt)
          have HRG : Hid (R < G) := Lib.hid (by have := HA2.out.lt; have := HG9.out.nx.g1; have := HG9.out.nx.g2; have := HG9.out.cG; omega)
          have HPut := Lib.hid (putSuper_calls s W9 HSD.out (HT.out.below HBW.out H0.out) (by have := HBW.out.size; have := H0.out; omega))
          go_wp2_with (refine wpList_load_mid rfl 33 (.tmp 6) rfl G 0 rfl (supC s) _ (sup_range HG9.out.sup) Tryd.underlying33 rfl sup_info ?_)
          refine HPut.out.mono ?_; rintro e w12 ⟨he, hb12⟩
          have HB12 := Lib.hid (below_step HBW.out hb12)
          have HAS := Lib.hid (HG9.out.sup.below hb12 HG9.out.sup.lt)
          have HA12 := Lib.hid (HAR.out.below hb12 HAR.out.lt)
          clear hb12
          cases hq : superB s with
          | false =>
            rw [hq, if_neg (by decide)] at he
            subst he
            have HF := Lib.hid (get_none HX.out HRS.out (.inl hq))
            clear hq HPut
            go_wp2_with (refine wpList_store_mid rfl 33 (.tmp 2) (.tmp 100) rfl R 0 (supC zeroS).toArray rfl rfl HA12.out.there sup_info (sup_one _) ?_)
            refine bodyPost_ret (results_cell2 rfl _ _ (a := ⟨R, 0, none⟩) rfl (load_sup (HA12.out.all zeroS))) rfl ?_
            exact ⟨.inr ⟨HF.out, rfl⟩, belowg HB12.out (gsets (supC zeroS) 0 _ (World.grownBy.refl _ _)) HB12.out.size (by rw [HRb.out]; exact Nat.le_refl _)⟩
          | true =>
            rw [hq, if_pos rfl] at he
            subst he
            have HK := Lib.hid ((superB_iff s HSD.out).1 hq)
            clear hq HPut
            by_cases heq : strOfNums (putS s) = sector
            · have hb1 : ((strOfNums (putS s)).toList == sector.toList) = true := BS.beq_of heq
              have hb2 : ((strOfNums (putS s)).toList != sector.toList) = false := by unfold bne; rw [hb1]; rfl
              have HE : Hid (putS s = bytesOf sector) := Lib.hid (by rw [← heq, BS.bytesOf_str _ (putS_bytes s HK.out)])
              clear heq
              go_wp2_with (first | (refine wpList_load_mid rfl 33 (.tmp 6) rfl G 0 rfl (supC s) _ (sup_range HAS.out) Tryd.underlying33 rfl sup_info ?_) | (refine wpList_store_mid rfl 33 (.tmp 2) (.tmp 101) rfl R 0 (supC s).toArray rfl rfl HA12.out.there sup_info (sup_one _) ?_))
              refine bodyPost_ret (results_cell2 rfl _ _ (a := ⟨R, 0, none⟩) rfl (load_sup (HA12.out.all s))) rfl ?_
              exact ⟨.inl ⟨s, HK.out, HE.out, rfl⟩, belowg HB12.out (gsets (supC s) 0 _ (World.grownBy.refl _ _)) HB12.out.size (by rw [HRb.out]; exact Nat.le_refl _)⟩
            · have hb1 : ((strOfNums (putS s)).toList == sector.toList) = false := BS.beq_not heq
              have hb2 : ((strOfNums (putS s)).toList != sector.toList) = true := by unfold bne; rw [hb1]; rfl
              have HF := Lib.hid (get_none HX.out HRS.out (.inr (fun e => heq (by rw [e, BS.str_bytesOf]))))
              clear heq
              go_wp2_with (refine wpList_store_mid rfl 33 (.tmp 2) (.tmp 100) rfl R 0 (supC zeroS).toArray rfl rfl HA12.out.there sup_info (sup_one _) ?_)
              refine bodyPost_ret (results_cell2 rfl _ _ (a := ⟨R, 0, none⟩) rfl (load_sup (HA12.out.all zeroS))) rfl ?_
              exact ⟨.inr ⟨HF.out, rfl⟩, belowg HB12.out (gsets (supC zeroS) 0 _ (World.grownBy.refl _ _)) HB12.out.size (by rw [HRb.out]; exact Nat.le_refl _)⟩
    · have HF := Lib.hid (pre_not (sector := sector) (fun _ h => hm h))
      have hdm := decide_eq_false hm
      have HAf := Lib.hid (HA.out.below hb2 HA.out.lt)
      have HB2 := Lib.hid (below_step HBa.out hb2)
      clear hm hb2
      go_wp2_with (refine wpList_store_mid rfl 33 (.tmp 2) (.tmp 20) rfl R 0 (supC zeroS).toArray rfl rfl HAf.out.there sup_info (sup_one _) ?_)
      refine bodyPost_ret (results_cell2 rfl _ _ (a := ⟨R, 0, none⟩) rfl (load_sup (HAf.out.all zeroS))) rfl ?_
      exact ⟨.inr ⟨HF.out, rfl⟩, belowg HB2.out (gsets (supC zeroS) 0 _ (World.grownBy.refl _ _)) HB2.out.size (by rw [HRb.out]; exact Nat.le_refl _)⟩
  · have hn1 : ((sector.size : Int) != 512) = true := by simp; omega
    have HF := Lib.hid (pre_not (sector := sector) (fun h _ => hl (by rw [← BS.size_bytesOf]; exact h)))
    go_wp2_with (refine wpList_store_mid rfl 33 (.tmp 2) (.tmp 20) rfl R 0 (supC zeroS).toArray rfl rfl HA.out.there sup_info (sup_one _) ?_)
    refine bodyPost_ret (results_cell2 rfl _ _ (a := ⟨R, 0, none⟩) rfl (load_sup (HA.out.all zeroS))) rfl ?_
    exact ⟨.inr ⟨HF.out, rfl⟩, belowg HBa.out (gsets (supC zeroS) 0 _ (World.grownBy.refl _ _)) HBa.out.size (by rw [HRb.out]; exact Nat.le_refl _)⟩
end Go.Proofs.YtijjecnmdhefbaaDoor.SP
