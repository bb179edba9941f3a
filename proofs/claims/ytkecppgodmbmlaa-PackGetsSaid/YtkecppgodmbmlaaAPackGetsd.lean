/- The own texts that the statement PackGets leans on: RunsRefP, PkRefGet, PkOnce, PkGets. -/
import Derived.Test.YtkecppgodmbmlaaAPackGets
import Derived.Test.YtkecppgodmbmlaaAPackGetsb
import Derived.Test.YtkecppgodmbmlaaAPackGetsc
import Derived.Test.YtkecppgodmbmlaaPPackGetsx4
import Derived.ScopeJumps
import Derived.Deep.DeepCutAuto
import Derived.Outline
namespace Go.Proofs.Ytkecppgodmbmlaa.RU
open Go.RowKit Go.Proofs.YtkecppgodmbmlaaW.PrintWords Go.Proofs.YtkecppgodmbmlaaW.PrintLast Go.Proofs.YtkecppgodmbmlaaW.PrintMore Go.Proofs.Ytkecppgodmbmlaa.CD Go.Proofs.Ytkecppgodmbmlaa.BR
set_option linter.unusedVariables false
set_option linter.unusedSimpArgs false
def ansR (o : Option (List Int × List Int)) (len : Nat) : List Int × Int × Int :=
  match o with
  | none => ([], 0, 4)
  | some (l, rest) => (l, (len : Int) - (rest.length : Int), 0)
theorem first_more (X : List Int) (hb : Bytes X) (hl : X.length ≤ 140737488355328) : ∀ j, PPackGets.bedrockref04_First.f (70 + j) X = some (((dec X).1 : Int), ((dec X).2 : Int))
  | 0 => first_f X hb hl
  | j + 1 => PPackGets.bedrockref04_First.mono X (70 + j) _ (first_more X hb hl j)
theorem first_at (X : List Int) (hb : Bytes X) (hl : X.length ≤ 140737488355328) (G : Nat) (hG : 70 ≤ G) : PPackGets.bedrockref04_First.f G X = some (((dec X).1 : Int), ((dec X).2 : Int)) := by
  obtain ⟨j, rfl⟩ : ∃ j, G = 70 + j := ⟨G - 70, by omega⟩
  exact first_more X hb hl j
theorem w64n (n : Nat) (h : n < 9223372036854775808) : wrap64 (n : Int) = (n : Int) := by unfold wrap64; omega
theorem ref_l1 (X0 : List Int) (n at_ k m : Nat) (b : Int) (hX : X0.length ≤ 1000000000) (hat : at_ + k < X0.length) (hb : X0.getD (at_ + k) 0 = b) (hm : m ≤ 1000000) (F : Nat) : ∀ (d i : Nat) (acc : List Int), i + d = m → acc.length + d ≤ 100000000 →
    PPackGets.bedrockref05_Get.l1 (F + 1 + d) X0 (n : Int) acc (at_ : Int) (m : Int) (k : Int) (i : Int) = PPackGets.bedrockref05_Get.l1 (F + 1) X0 (n : Int) (acc ++ List.replicate d b) (at_ : Int) (m : Int) (k : Int) (m : Int)
  | 0, i, acc, hi, hl => by
    obtain rfl : i = m := by omega
    simp
  | d + 1, i, acc, hi, hl => by
    rw [show F + 1 + (d + 1) = (F + 1 + d) + 1 by omega]
    have e1 : wrap64 ((at_ : Int) + (k : Int)) = ((at_ + k : Nat) : Int) := by rw [← Int.natCast_add]; exact w64n _ (by omega)
    have e2 : IntKind.u64.wrap ((i : Int) + 1) = ((i + 1 : Nat) : Int) := CF.wu64_id _ (by omega) (by omega)
    rw [PPackGets.bedrockref05_Get.l1]
    rw [if_pos (by omega), e1, e2, if_pos (by omega), if_pos (by omega), if_pos (by omega), rdn, hb]
    rw [ref_l1 X0 n at_ k m b hX hat hb hm F d (i + 1) (acc ++ [b]) (by omega) (by rw [List.length_append, List.length_singleton]; omega)]
    rw [List.append_assoc, List.replicate_succ]
    rfl
theorem getD_app_left (a b : List Int) (i : Nat) (h : i < a.length) : (a ++ b).getD i 0 = a.getD i 0 := by
  rw [List.getD_eq_getElem?_getD, List.getD_eq_getElem?_getD, List.getElem?_append_left h]
theorem getD_rep (a : List Int) (m : Nat) (b : Int) (i : Nat) (h : a.length ≤ i) (h2 : i < a.length + m) : (a ++ List.replicate m b).getD i 0 = b := by
  rw [List.getD_eq_getElem?_getD, List.getElem?_append_right h, List.getElem?_replicate, if_pos (by omega)]; rfl
theorem last_getD (l : List Int) (h : 0 < l.length) : l.getLast? = some (l.getD (l.length - 1) 0) := by
  rw [List.getLast?_eq_getElem?, List.getD_eq_getElem?_getD, List.getElem?_eq_getElem (by omega)]; rfl
theorem ref_l0 (X0 : List Int) (n : Nat) (hX : X0.length ≤ 1000000) (hb : Bytes X0) (hn : n ≤ 65536) : ∀ (d f at_ : Nat) (acc : List Int) (F : Nat), n - acc.length ≤ d → d < f → acc.length ≤ n → at_ ≤ X0.length → 100000 * (d + 1) + 100 ≤ F →
    PPackGets.bedrockref05_Get.l0 F X0 (n : Int) acc (at_ : Int) = some (ansR (getG f n (X0.drop at_) acc) X0.length)
  | d, f, at_, acc, F, hd, hf, hal, hat, hFd => by
    obtain ⟨f, rfl⟩ : ∃ q, f = q + 1 := ⟨f - 1, by omega⟩
    obtain ⟨F, rfl⟩ : ∃ q, F = q + 1 := ⟨F - 1, by omega⟩
    rw [PPackGets.bedrockref05_Get.l0]
    by_cases hlt : acc.length < n
    · obtain ⟨d, rfl⟩ : ∃ q, d = q + 1 := ⟨d - 1, by omega⟩
      rw [if_pos (by omega), if_pos (by omega), if_pos (by omega), show (at_ : Int).toNat = at_ by omega]
      obtain ⟨X, hXd⟩ : ∃ X, X0.drop at_ = X := ⟨_, rfl⟩
      have hXl : X.length = X0.length - at_ := by rw [← hXd, List.length_drop]
      have hXb : Bytes X := by rw [← hXd]; exact hb.drop _
      rw [hXd]
      rw [first_at X hXb (by omega) F (by omega), Option.bind_some]
      obtain ⟨⟨m, k⟩, hdec⟩ : ∃ q, dec X = q := ⟨_, rfl⟩
      rw [hdec]
      simp only
      have hwn : IntKind.u64.wrap (n : Int) = (n : Int) := CF.wu64_id _ (by omega) (by omega)
      rw [hwn]
      clear hwn
      have fin : ∀ q : Bool, (k = 0 ∨ X.length ≤ k ∨ n < m → q = true) → (¬ (k = 0 ∨ X.length ≤ k ∨ n < m) → q = false) →
          PPackGets.bedrockref05_Get.j2 F X0 (n : Int) acc (at_ : Int) (m : Int) (k : Int) q = some (ansR (getG (f + 1) n X acc) X0.length) := by
        intro q hq1 hq2
        obtain ⟨F1, rfl⟩ : ∃ q, F = q + 1 := ⟨F - 1, by omega⟩
        rw [PPackGets.bedrockref05_Get.j2]
        by_cases hbad : k = 0 ∨ X.length ≤ k ∨ n < m
        · rw [if_pos (hq1 hbad), getG_bad _ _ _ _ hlt (by
            refine decide_eq_true ?_
            rw [hdec]
            simp only
            rcases hbad with h | h | h
            · exact .inl h
            · exact .inr (.inl h)
            · exact .inr (.inr (.inr (.inl (by omega)))))]
          rfl
        · have hq := hq2 hbad
          subst hq
          rw [if_neg (by decide)]
          have hk0 : k ≠ 0 := fun e => hbad (.inl e)
          have hk1 : k < X.length := Nat.lt_of_not_le fun e => hbad (.inr (.inl e))
          have hmn : m ≤ n := Nat.le_of_not_lt fun e => hbad (.inr (.inr e))
          have hbx : X0.getD (at_ + k) 0 = X.getD k 0 := by rw [← hXd, List.getD_eq_getElem?_getD, List.getD_eq_getElem?_getD, List.getElem?_drop]
          obtain ⟨b, hbe⟩ : ∃ b, X.getD k 0 = b := ⟨_, rfl⟩
          rw [hbe] at hbx
          obtain ⟨F2, hF2⟩ : ∃ F2, F1 = F2 + 1 + m := ⟨F1 - 1 - m, by omega⟩
          have h1 := ref_l1 X0 n at_ k m b (by omega) (by omega) hbx (by omega) F2 m 0 acc (by omega) (by omega)
          rw [← hF2, Int.natCast_zero] at h1
          rw [h1]
          obtain ⟨l2, hl2⟩ : ∃ l2, acc ++ List.replicate m b = l2 := ⟨_, rfl⟩
          have hl2l : l2.length = acc.length + m := by rw [← hl2, List.length_append, List.length_replicate]
          rw [hl2, PPackGets.bedrockref05_Get.l1, if_neg (by omega)]
          have hG : ∀ (h : m = 0 ∨ n - acc.length < m ∨ acc.getLast? = some b), getG (f + 1) n X acc = none := fun h => getG_bad _ _ _ _ hlt (by
            refine decide_eq_true ?_
            rw [hdec]
            simp only
            rw [hbe]
            exact .inr (.inr h))
          by_cases hm0 : m = 0
          · rw [if_pos (by omega), hG (.inl hm0)]; rfl
          · rw [if_neg (by omega)]
            by_cases hmm : n - acc.length < m
            · rw [if_pos (by omega), hG (.inr (.inl hmm))]; rfl
            · rw [if_neg (by omega)]
              have wm := Lib.hid (show wrap64 (m : Int) = (m : Int) from w64n _ (by omega))
              have wlm := Lib.hid (show wrap64 ((l2.length : Int) - (m : Int)) = (acc.length : Int) from by rw [show (l2.length : Int) - (m : Int) = ((acc.length : Nat) : Int) by omega]; exact w64n _ (by omega))
              have wak := Lib.hid (show wrap64 ((at_ : Int) + (k : Int)) = ((at_ + k : Nat) : Int) from by rw [← Int.natCast_add]; exact w64n _ (by omega))
              have wak1 := Lib.hid (show wrap64 (((at_ + k : Nat) : Int) + 1) = ((at_ + k + 1 : Nat) : Int) from by rw [show ((at_ + k : Nat) : Int) + 1 = ((at_ + k + 1 : Nat) : Int) by omega]; exact w64n _ (by omega))
              have wl1 := Lib.hid (show wrap64 ((l2.length : Int) - 1) = ((l2.length - 1 : Nat) : Int) from by rw [show (l2.length : Int) - 1 = ((l2.length - 1 : Nat) : Int) by omega]; exact w64n _ (by omega))
              rw [wm.out, wlm.out, wak.out, wak1.out, wl1.out]
              have go : (acc.getLast? ≠ some b) → PPackGets.bedrockref05_Get.l0 F2 X0 (n : Int) l2 ((at_ + k + 1 : Nat) : Int) = some (ansR (getG (f + 1) n X acc) X0.length) := by
                intro hne
                have hG2 : getG (f + 1) n X acc = getG f n (X.drop (k + 1)) l2 := by
                  rw [getG_go _ _ _ _ hlt (by
                    refine decide_eq_false ?_
                    rw [hdec]
                    simp only
                    rw [hbe]
                    rintro (h | h | h | h | h)
                    · exact hk0 h
                    · omega
                    · exact hm0 h
                    · exact hmm h
                    · exact hne h), hdec]
                  simp only
                  rw [hbe, hl2]
                rw [hG2, ← hXd, List.drop_drop, show at_ + (k + 1) = at_ + k + 1 by omega]
                exact ref_l0 X0 n hX hb hn d f (at_ + k + 1) l2 F2 (by omega) (by omega) (by omega) (by omega) (by omega)
              by_cases ha0 : 0 < acc.length
              · have wl2 : wrap64 ((acc.length : Int) - 1) = ((acc.length - 1 : Nat) : Int) := by rw [show (acc.length : Int) - 1 = ((acc.length - 1 : Nat) : Int) by omega]; exact w64n _ (by omega)
                have r1 : l2.getD (acc.length - 1) 0 = acc.getD (acc.length - 1) 0 := by rw [← hl2]; exact getD_app_left _ _ _ (by omega)
                have r2 : l2.getD (l2.length - 1) 0 = b := by rw [← hl2] at hl2l ⊢; exact getD_rep _ _ _ _ (by omega) (by omega)
                rw [wl2]
                clear wl2
                rw [if_pos (by omega), if_pos (by omega), if_pos (by omega), if_pos (by omega), if_pos (by omega), rdn, rdn, r1, r2]
                by_cases hx : acc.getD (acc.length - 1) 0 = b
                · rw [if_pos hx, hG (.inr (.inr (by rw [last_getD acc ha0, hx])))]; rfl
                · rw [if_neg hx]
                  exact go (by rw [last_getD acc ha0]; intro e; injection e with e; exact hx e)
              · rw [if_neg (by omega)]
                exact go (by rw [List.eq_nil_of_length_eq_zero (show acc.length = 0 by omega)]; simp)
      have wak : wrap64 ((at_ : Int) + (k : Int)) = (at_ : Int) + (k : Int) := by
        by_cases hk0 : k = 0
        · subst hk0; rw [show (at_ : Int) + ((0 : Nat) : Int) = (at_ : Int) by omega]; exact w64n _ (by omega)
        · have := (dec_back X hXb m k hdec hk0).2.2.2.1
          rw [← Int.natCast_add]; exact w64n _ (by omega)
      rw [wak]
      clear wak
      by_cases hk0 : k = 0
      · rw [if_pos (by omega)]
        exact fin true (fun _ => rfl) (fun h => absurd (.inl hk0) h)
      · rw [if_neg (by omega)]
        by_cases hk1 : X.length ≤ k
        · rw [if_pos (by omega)]
          exact fin true (fun _ => rfl) (fun h => absurd (.inr (.inl hk1)) h)
        · rw [if_neg (by omega)]
          exact fin _ (fun h => decide_eq_true (by rcases h with h | h | h <;> omega)) (fun h => decide_eq_false (by omega))
    · rw [if_neg (by omega), getG_end _ _ _ _ hlt]
      unfold ansR
      simp only [List.length_drop, Option.some.injEq, Prod.mk.injEq, and_true, true_and]
      omega
  termination_by d _ _ _ _ _ _ _ _ _ => d
theorem refget_f (X : List Int) (n : Nat) (hX : X.length ≤ 1000000) (hb : Bytes X) (hn : n ≤ 65536) : PPackGets.bedrockref05_Get.f (100000 * (n + 1) + 101) X (n : Int) = some (ansR (getG (n + 1) n X []) X.length) := by
  unfold PPackGets.bedrockref05_Get.f
  obtain ⟨F, hF⟩ : ∃ F, 100000 * (n + 1) + 100 = F := ⟨_, rfl⟩
  rw [if_neg (by omega), show 100000 * (n + 1) + 101 = F + 1 by omega, PPackGets.bedrockref05_Get.j0, decide_eq_false (by omega), if_neg (by decide)]
  exact ref_l0 X n hX hb hn n (n + 1) 0 [] F (by simp) (by omega) (by simp) (by omega) (by omega)
theorem refget_arg (X : List Int) (n : Int) (hn : n < 0 ∨ 65536 < n) : PPackGets.bedrockref05_Get.f 1 X n = some ([], 0, 2) := by
  unfold PPackGets.bedrockref05_Get.f
  by_cases h : n < 0
  · rw [if_pos h, PPackGets.bedrockref05_Get.j0, if_pos rfl]
  · rw [if_neg h, PPackGets.bedrockref05_Get.j0, decide_eq_true (by omega), if_pos rfl]
def wantR (X : List Int) (n : Int) : List Int × Int × Int := if n < 0 ∨ 65536 < n then ([], 0, 2) else ansR (getG (n.toNat + 1) n.toNat X []) X.length
theorem refget_calls (A : Option Addr) (c : Nat) (X : List Int) (n : Int) (w : World) (hr : ReadsInt w .u8 A X.length X) (hc : X.length ≤ c) (hb : Bytes X) (hX : X.length ≤ 1000000) :
    Calls Try.prog 35 #[.slice A X.length c, .int .i64 n] w fun e w' => ∃ v, e = .returned (.tuple #[v, .int .i64 (wantR X n).2.1, .int .i64 (wantR X n).2.2]) ∧ OB w' w.heap.size v (wantR X n).1 ∧ Below w.heap.size w w' := by
  unfold wantR
  by_cases h : n < 0 ∨ 65536 < n
  · rw [if_pos h]
    exact (PPackGets.bedrockref05_Get.calls 1 A c X n [] 0 2 w (Kd.C_of_reads (d := (0 : Int)) (h1 := fun _ => rfl) hr) hc (refget_arg X n h)).mono fun e w' ⟨v, he, hR, hb⟩ => ⟨v, he, OB.of_R hR, hb⟩
  · rw [if_neg h]
    obtain ⟨m, rfl⟩ := Int.eq_ofNat_of_zero_le (show 0 ≤ n by omega)
    rw [Int.toNat_natCast]
    have hf := refget_f X m hX hb (by omega)
    obtain ⟨⟨r1, r2, r3⟩, hq⟩ : ∃ q, ansR (getG (m + 1) m X []) X.length = q := ⟨_, rfl⟩
    rw [hq] at hf ⊢
    exact (PPackGets.bedrockref05_Get.calls _ A c X (m : Int) r1 r2 r3 w (Kd.C_of_reads (d := (0 : Int)) (h1 := fun _ => rfl) hr) hc hf).mono fun e w' ⟨v, he, hR, hb⟩ => ⟨v, he, OB.of_R hR, hb⟩
end Go.Proofs.Ytkecppgodmbmlaa.RU

namespace Go.Proofs.Ytkecppgodmbmlaa.PK
open Go.RowKit Go.Proofs.YtkecppgodmbmlaaW.PrintWords Go.Proofs.YtkecppgodmbmlaaW.PrintLast Go.Proofs.YtkecppgodmbmlaaW.PrintMore Go.Proofs.Ytkecppgodmbmlaa.CD Go.Proofs.Ytkecppgodmbmlaa.BR
attribute [local go_sem] max2_int min2_int max_two min_two max_three min_three max_four min_four
set_option linter.unusedVariables false
set_option linter.unusedSimpArgs false
theorem tdiv16 (y : Nat) : Int.tdiv (y : Int) 16 = (y : Int) / 16 := Int.tdiv_eq_ediv_of_nonneg (by omega)
theorem tmod16 (y : Nat) : Int.tmod (y : Int) 16 = (y : Int) % 16 := Int.tmod_eq_emod_of_nonneg (by omega)
def GetsF (o : Option (List Int × List Int)) (len : Nat) (w : World) (e : Ending) (w' : World) : Prop :=
  (match o with
  | none => ∃ v, e = .returned (.tuple #[v, .int .i64 0, .int .i64 4])
  | some (l, rest) => ∃ v, e = .returned (.tuple #[v, .int .i64 ((len : Int) - (rest.length : Int)), .int .i64 0]) ∧ OB w' w.heap.size v l) ∧ Below w.heap.size w w'
theorem rget4096 (A : Option Addr) (c : Nat) (X : List Int) (w : World) (hr : ReadsInt w .u8 A X.length X) (hc : X.length ≤ c) (hb : Bytes X) (hX : X.length ≤ 1000000) :
    Calls Try.prog 35 #[.slice A X.length c, .int .i64 4096] w (GetsF (RU.getG 4097 4096 X []) X.length w) := by
  refine (RU.refget_calls A c X 4096 w hr hc hb hX).mono ?_
  rintro e w' ⟨v, he, ho, hbl⟩
  have e1 : RU.wantR X 4096 = RU.ansR (RU.getG 4097 4096 X []) X.length := by
    unfold RU.wantR
    rw [if_neg (by decide)]
    rfl
  rw [e1] at he ho
  refine ⟨?_, hbl⟩
  cases hg : RU.getG 4097 4096 X [] with
  | none => rw [hg] at he; exact ⟨v, he⟩
  | some q =>
    obtain ⟨l, rest⟩ := q
    rw [hg] at he ho
    exact ⟨v, he, ho⟩
def GetsR (b : List Int) (w : World) (e : Ending) (w' : World) : Prop :=
  ((e = .returned (.tuple #[.pointer none, .int .i64 4]) ∧ ∀ C L T, ¬ Pk b C L T) ∨ ∃ g C L T v, e = .returned (.tuple #[.pointer (some ⟨g, 0, none⟩), .int .i64 0]) ∧ Chunk w' g C L v ∧ TK w' v T ∧ Pk b C L T) ∧ Below w.heap.size w w'
structure Lq (w wb W : World) (g : Nat) (b cs ls : List Int) (i : Nat) : Prop where
  below : Below w.heap.size w W
  far : ∀ k, k ≠ g → k < wb.heap.size → W.heap[k]? = wb.heap[k]?
  ch : Chunk W g (halfC b cs i) (halfL ls i) (.slice none 0 0)
theorem Lq.cellOf {w wb W : World} {g : Nat} {b cs ls : List Int} {i : Nat} (h : Lq w wb W g b cs ls i) {p : Addr} {v : Value} (hp : p.block ≠ g) (hc : wb.cell? p = some v) : W.cell? p = some v := by
  have hl := World.block_lt_of_cell? wb _ hc
  rw [← hc]
  unfold World.cell?
  rw [h.far p.block hp hl]
set_option maxHeartbeats 4000000 in
set_option maxRecDepth 100000 in
theorem rgetc_calls (A : Option Addr) (c : Nat) (b : List Int) (w : World) (hr : ReadsInt w .u8 A b.length b) (hc : b.length ≤ c) (hb : Bytes b) (hs : b.length ≤ 1000000) :
    Calls Try.prog 19 #[.slice A b.length c] w (GetsR b w) := by
  have hbu := run_zero
  have hbo := run_box
  have hbd := run_build
  have HR := Lib.hid hr
  have HC := Lib.hid hc
  have HB := Lib.hid hb
  clear hr hc hb
  go_enter Try.func19, Try.ntmps19
  by_cases h0 : b = []
  · have hF := Lib.hid (show ∀ C L T, ¬ Pk b C L T from fun C L T h => by
      obtain ⟨k, e, _⟩ := h.head
      rw [h0] at e
      cases e)
    subst h0
    go_wp2
    go_ret2
    exact ⟨.inl ⟨rfl, hF.out⟩, Below.refl _ _⟩
  · obtain ⟨k, hk⟩ : ∃ k : Nat, b.getD 0 0 = (k : Int) := by
      have h1 := hr1 b HB.out 0
      exact ⟨(b.getD 0 0).toNat, by omega⟩
    have hk8 : k < 256 := by
      have h1 := hr1 b HB.out 0
      omega
    have hlen : 0 < b.length := List.length_pos_iff.2 h0
    have HK := Lib.hid hk
    obtain ⟨ad, rfl, hcell⟩ := HR.out.2.2 hlen
    have hc0 := hcell 0 hlen
    rw [hk, Addr.add_zero'] at hc0
    have HQ0 := Lib.hid (fun W (h : Below w.heap.size w W) => Lib.Below.cellOf h hc0 (Nat.le_refl _))
    have HCELL := Lib.hid hcell
    have q0 := HQ0.out _ (Below.refl w.heap.size w)
    have d0 : ((b.length : Int) == 0) = false := by rw [beq_eq_false_iff_ne]; omega
    have d0' : decide ((b.length : Int) = 0) = false := decide_eq_false (by omega)
    have i0 : (0 : Int) < (b.length : Int) := by omega
    clear hc0 hcell h0 hk
    by_cases hk2 : b.length < 1 + 2 * k
    · have hF := Lib.hid (show ∀ C L T, ¬ Pk b C L T from fun C L T h => by
        have := h.drop k HK.out
        omega)
      have d1 := decide_eq_true (show (b.length : Int) < 1 + 2 * (k : Int) by omega)
      go_wp2
      go_ret2
      exact ⟨.inl ⟨rfl, hF.out⟩, Below.refl _ _⟩
    · have d1 := decide_eq_false (show ¬ (b.length : Int) < 1 + 2 * (k : Int) by omega)
      have hk3 : 1 + 2 * k ≤ b.length := by omega
      obtain ⟨at1, hat1⟩ : ∃ at1 : Nat, at1 = 1 + 2 * k := ⟨_, rfl⟩
      obtain ⟨A1, hcut1, hrd1, hA1⟩ := cutFrom (some ad) b c at1 (by omega) HC.out
      have hl1 : (b.drop at1).length = b.length - at1 := List.length_drop
      have hge := Lib.hid (fun W (h : Below w.heap.size w W) => (show Calls Try.prog 35 #[.slice A1 (b.length - at1) (c - at1), .int .i64 4096] W (GetsF (RU.getG 4097 4096 (b.drop at1) []) (b.length - at1) W) from by
        have := rget4096 A1 (c - at1) (b.drop at1) W (hrd1 W (HR.out.below h)) (by rw [List.length_drop]; have := HC.out; omega) (HB.out.drop _) (by rw [List.length_drop]; omega)
        rw [hl1] at this
        exact this))
      have HAT1 := Lib.hid hat1
      have z1 : (1 : Int) + 2 * (k : Int) = (at1 : Int) := by omega
      have hat1l : at1 ≤ b.length := by omega
      clear hrd1 hA1 hl1 hat1 hk2 hk3
      go_wp2_with fail
      refine (hge.out _ (Below.refl _ _)).mono ?_; rintro e wa ⟨hea, hba⟩
      have HBA := Lib.hid hba
      clear hba hge hcut1 q0
      cases hG1 : RU.getG 4097 4096 (b.drop at1) [] with
      | none =>
        rw [hG1] at hea
        obtain ⟨v, rfl⟩ := hea
        have hF := Lib.hid (show ∀ C L T, ¬ Pk b C L T from fun C L T h => by
          have h1 := h.drop k HK.out
          rw [← HAT1.out] at h1
          rw [h1.2.2.2.2, h.get1] at hG1
          cases hG1)
        clear hG1
        go_wp2
        go_ret2
        exact ⟨.inl ⟨rfl, hF.out⟩, HBA.out⟩
      | some q =>
        obtain ⟨cs, r1⟩ := q
        rw [hG1] at hea
        obtain ⟨v5, he5, ho5⟩ := hea
        subst he5
        obtain ⟨hcl, hdr⟩ := RU.getG_one 4096 (b.drop at1) cs r1 (HB.out.drop _) hG1
        have HP1 := Lib.hid (show ∀ C L T, Pk b C L T → cs = (codes C).2 ∧ r1 = tailL L T ∧ k = (codes C).1.length from fun C L T h => by
          have h1 := h.drop k HK.out
          rw [← HAT1.out] at h1
          rw [h1.2.2.2.2, h.get1] at hG1
          injection hG1 with hG1
          injection hG1 with e1 e2
          exact ⟨e1.symm, e2.symm, h1.2.2.2.1⟩)
        have hl := congrArg List.length hdr
        rw [List.length_drop, List.length_append] at hl
        obtain ⟨at2, hat2⟩ : ∃ at2 : Nat, at2 = b.length - r1.length := ⟨_, rfl⟩
        have hd2 : b.drop at2 = r1 := by
          have := congrArg (List.drop (RU.row cs).length) hdr
          rw [List.drop_drop, List.drop_left] at this
          rw [← this]
          congr 1
          omega
        have hr1l : r1.length = b.length - at2 := by omega
        have hat2l : at2 ≤ b.length := by omega
        obtain ⟨u1, hu1⟩ : ∃ u1 : Nat, at1 + u1 = at2 := ⟨at2 - at1, by omega⟩
        have eu1 : ((b.length - at1 : Nat) : Int) - (r1.length : Int) = (u1 : Int) := by omega
        rw [eu1]
        obtain ⟨g5, c5, rfl, hc5, hg5, hg5l, hq5⟩ := own4096 ho5 hcl
        have HQ5 := Lib.hid (fun W (h : Below wa.heap.size wa W) j (hj : j < 4096) => Lib.Below.cellOf h (hq5 j hj) (Nat.le_refl _))
        have HCL := Lib.hid hcl
        have HCB := Lib.hid (show Bytes cs from bytes_of_row cs (Bytes.left (by rw [← hdr]; exact HB.out.drop _)))
        obtain ⟨A2, hcut2, hrd2, hA2⟩ := cutFrom (some ad) b c at2 hat2l HC.out
        have hge := Lib.hid (fun W (h : Below w.heap.size w W) => (show Calls Try.prog 35 #[.slice A2 (b.length - at2) (c - at2), .int .i64 4096] W (GetsF (RU.getG 4097 4096 r1 []) (b.length - at2) W) from by
          have := rget4096 A2 (c - at2) (b.drop at2) W (hrd2 W (HR.out.below h)) (by rw [List.length_drop]; have := HC.out; omega) (HB.out.drop _) (by rw [List.length_drop]; omega)
          rw [hd2, hr1l] at this
          exact this))
        have z2 : (at1 : Int) + (u1 : Int) = (at2 : Int) := by omega
        have HR1 := Lib.hid hr1l
        have HD2 := Lib.hid hd2
        clear hrd2 hA2 hat2 hd2 hr1l hu1 hl hdr hq5 ho5 hG1 eu1 hcl
        go_wp2_with fail
        refine (hge.out _ HBA.out).mono ?_; rintro e wb ⟨heb, hbb⟩
        have HBB := Lib.hid (below_step HBA.out hbb)
        have HQ5b := Lib.hid (fun j hj => HQ5.out wb hbb j hj)
        have hwab := hbb.size
        clear hbb hge hcut2 HQ5
        cases hG2 : RU.getG 4097 4096 r1 [] with
        | none =>
          rw [hG2] at heb
          obtain ⟨v, rfl⟩ := heb
          have hF := Lib.hid (show ∀ C L T, ¬ Pk b C L T from fun C L T h => by
            have h1 := HP1.out C L T h
            rw [h1.2.1, h.get2] at hG2
            cases hG2)
          clear hG2
          go_wp2
          go_ret2
          exact ⟨.inl ⟨rfl, hF.out⟩, HBB.out⟩
        | some q =>
          obtain ⟨ls, r2⟩ := q
          rw [hG2] at heb
          obtain ⟨v6, he6, ho6⟩ := heb
          subst he6
          have hr1b : Bytes r1 := by rw [← HD2.out]; exact HB.out.drop _
          obtain ⟨hll, hdr⟩ := RU.getG_one 4096 r1 ls r2 hr1b hG2
          have HP2 := Lib.hid (show ∀ C L T, Pk b C L T → (cs = (codes C).2 ∧ ls = L.map lcode ∧ r2 = tailT T) ∧ k = (codes C).1.length from fun C L T h => by
            have h1 := HP1.out C L T h
            rw [h1.2.1, h.get2] at hG2
            injection hG2 with hG2
            injection hG2 with e1 e2
            exact ⟨⟨h1.1, e1.symm, e2.symm⟩, h1.2.2⟩)
          have hl := congrArg List.length hdr
          rw [HR1.out, List.length_append] at hl
          obtain ⟨at3, hat3⟩ : ∃ at3 : Nat, at3 = b.length - r2.length := ⟨_, rfl⟩
          have hd3 : b.drop at3 = r2 := by
            have := congrArg (List.drop (RU.row ls).length) hdr
            rw [← HD2.out, List.drop_drop, List.drop_left] at this
            rw [← this]
            congr 1
            omega
          have hr2l : r2.length = b.length - at3 := by omega
          have hat3l : at3 ≤ b.length := by omega
          obtain ⟨u2, hu2⟩ : ∃ u2 : Nat, at2 + u2 = at3 := ⟨at3 - at2, by omega⟩
          have eu2 : ((b.length - at2 : Nat) : Int) - (r2.length : Int) = (u2 : Int) := by omega
          rw [eu2]
          obtain ⟨g6, c6, rfl, hc6, hg6, hg6l, hq6⟩ := own4096 ho6 hll
          have HQ6b := Lib.hid hq6
          have HLL := Lib.hid hll
          have HLB := Lib.hid (show Bytes ls from bytes_of_row ls (Bytes.left (by rw [← hdr]; exact hr1b)))
          have z3 : (at2 : Int) + (u2 : Int) = (at3 : Int) := by omega
          have HR2 := Lib.hid hr2l
          have HD3 := Lib.hid hd3
          obtain ⟨g, hgg⟩ : ∃ g, wb.heap.size = g := ⟨_, rfl⟩
          have hgw : w.heap.size ≤ g := by rw [← hgg]; exact HBB.out.size
          have hg5g : g5 < g := by omega
          have hg6g : g6 < g := by omega
          have HLq := Lib.hid (⟨below_alloc HBB.out _, fun k hk hl => (below_alloc (Below.refl _ wb) (.cells zero 46)).block k hl, by rw [← hgg]; exact chunk_new wb⟩ : Lq w wb (wb.alloc (.cells zero 46)) g b cs ls 0)
          clear hat3 hd3 hr2l hl hdr hq6 ho6 hG2 eu2 hll hr1b HP1 hu2
          go_wp2_with fail
          clear hbu hbo hbd hgg
          generalize Value.agg zero = u63
          go_loopw [11] (fun iv W => ∃ i : Nat, i ≤ 4096 ∧ iv = .int .i64 (i : Int) ∧ Aside0 (Lq w wb W g b cs ls i)) (fun iv _ => 4096 - (intOf iv).toNat)
          case atStart => exact ⟨0, by omega, rfl, ⟨HLq.out⟩⟩
          case round =>
            obtain ⟨i, hi, rfl, ⟨hlp⟩⟩ := hrel
            have HLP := Lib.hid hlp
            clear hlp
            by_cases hlt : i < 4096
            · have hd := decide_eq_true (show (i : Int) < 4096 by omega)
              have p1 : (0 ≤ (i : Int)) = True := eq_true (by omega)
              have p2 : ((i : Int) < 4096) = True := eq_true (by omega)
              obtain ⟨x, hx⟩ : ∃ x : Nat, cs.getD i 0 = (x : Int) := ⟨(cs.getD i 0).toNat, by have := hr1 cs HCB.out i; omega⟩
              have hx8 : x < 256 := by have := hr1 cs HCB.out i; omega
              have HX := Lib.hid hx
              have c5i := HLP.out.cellOf (p := ⟨g5, i, none⟩) (show g5 ≠ g by omega) (HQ5b.out i hlt)
              rw [hx] at c5i
              clear hx
              by_cases hxk : x < k
              · have d5 := decide_eq_false (show ¬ (k : Int) ≤ (x : Int) by omega)
                have hxb : 2 + 2 * x < b.length := by have := HAT1.out; omega
                obtain ⟨x1, hx1⟩ : ∃ x1 : Nat, x1 = 1 + 2 * x := ⟨_, rfl⟩
                obtain ⟨x2, hx2⟩ : ∃ x2 : Nat, x2 = 2 + 2 * x := ⟨_, rfl⟩
                have s1 := Lib.Below.cellOf HLP.out.below (HCELL.out x1 (by omega)) (Nat.le_refl _)
                have s2 := Lib.Below.cellOf HLP.out.below (HCELL.out x2 (by omega)) (Nat.le_refl _)
                obtain ⟨b1, hb1⟩ : ∃ b1, b.getD x1 0 = b1 := ⟨_, rfl⟩
                obtain ⟨b2, hb2⟩ : ∃ b2, b.getD x2 0 = b2 := ⟨_, rfl⟩
                rw [hb1] at s1
                rw [hb2] at s2
                have HPA := Lib.hid (show palAt b (cs.getD i 0) = (b1, b2) by
                  rw [HX.out]
                  unfold palAt
                  rw [Int.toNat_natCast, ← hx1, ← hx2, hb1, hb2])
                have f1 : IntKind.i64.wrap (2 * (x : Int)) = 2 * (x : Int) := by rw [i64_w]; unfold wrap64; omega
                have f2 : IntKind.i64.wrap (1 + 2 * (x : Int)) = (x1 : Int) := by rw [i64_w]; unfold wrap64; omega
                have f3 : IntKind.i64.wrap (2 + 2 * (x : Int)) = (x2 : Int) := by rw [i64_w]; unfold wrap64; omega
                have f4 : (1 : Int) + 2 * (x : Int) = (x1 : Int) := by omega
                have f5 : (2 : Int) + 2 * (x : Int) = (x2 : Int) := by omega
                have p3 : (0 ≤ (x1 : Int)) = True := eq_true (by omega)
                have p4 : ((x1 : Int) < (b.length : Int)) = True := eq_true (by omega)
                have p5 : (0 ≤ (x2 : Int)) = True := eq_true (by omega)
                have p6 : ((x2 : Int) < (b.length : Int)) = True := eq_true (by omega)
                obtain ⟨c0, c1⟩ := HLP.out.ch.atC i hlt
                have cf0 := HLP.out.ch.frz (i * 2)
                have cf1 := HLP.out.ch.frz (i * 2 + 1)
                have F1 := Lib.hid (HLP.out.ch.setC i hlt (b1, b2))
                have f6 : wrap64 (x1 : Int) = (x1 : Int) := w64n _ (by omega)
                have f7 : wrap64 (x2 : Int) = (x2 : Int) := w64n _ (by omega)
                clear hb1 hb2 hx1 hx2 hxb
                go_wp2_with fail
                refine start_ (n := 19) (S := fun w' => w'.cell? (ad.add x1) = some (.int .u8 b1) ∧ w'.cell? (ad.add x2) = some (.int .u8 b2)) (ds := [18]) #[false, false, false, false, false, false, false, false, false, false, false, false, false, false, false, false, false, false, false] (by kernel_rfl) rfl rfl ⟨s1, s2⟩ (fun hHeld => ?_)
                refine pure_ (i := 0) (N := some 75) (v := ?_) (a' := ?_) #[true, false, false, false, false, false, false, false, false, false, false, false, false, false, false, false, false, false, false] rfl rfl (by kernel_rfl) (fun _ _ _ h => h) (Or.inl ⟨by rfl, ?_⟩) ?_ ?_
                rotate_left
                · intro w'
                  go_simp
                  with_reducible rfl
                rotate_left
                · simp only [Act.put, List.setIfInBounds_toArray, List.set_cons_zero, List.set_cons_succ, i64_w, i32_w]
                  rfl
                refine pure_ (i := 1) (N := some 76) (v := ?_) (a' := ?_) #[true, true, false, false, false, false, false, false, false, false, false, false, false, false, false, false, false, false, false] rfl rfl (by kernel_rfl) (fun _ _ _ h => h) (Or.inl ⟨by rfl, ?_⟩) ?_ ?_
                rotate_left
                · intro w'
                  go_simp
                  with_reducible rfl
                rotate_left
                · simp only [Act.put, List.setIfInBounds_toArray, List.set_cons_zero, List.set_cons_succ, i64_w, i32_w]
                  rfl
                refine pure_ (i := 2) (N := some 77) (v := ?_) (a' := ?_) #[true, true, true, false, false, false, false, false, false, false, false, false, false, false, false, false, false, false, false] rfl rfl (by kernel_rfl) (fun _ _ _ h => h) (Or.inl ⟨by rfl, ?_⟩) ?_ ?_
                rotate_left
                · intro w'
                  go_simp
                  with_reducible rfl
                rotate_left
                · simp only [Act.put, List.setIfInBounds_toArray, List.set_cons_zero, List.set_cons_succ, i64_w, i32_w]
                  rfl
                refine pure_ (i := 3) (N := some 78) (v := ?_) (a' := ?_) #[true, true, true, true, false, false, false, false, false, false, false, false, false, false, false, false, false, false, false] rfl rfl (by kernel_rfl) (fun _ _ _ h => h) (Or.inl ⟨by rfl, ?_⟩) ?_ ?_
                rotate_left
                · intro w'
                  go_simp
                  with_reducible rfl
                rotate_left
                · simp only [Act.put, List.setIfInBounds_toArray, List.set_cons_zero, List.set_cons_succ, i64_w, i32_w]
                  rfl
                refine pure_ (i := 4) (N := some 79) (v := ?_) (a' := ?_) #[true, true, true, true, true, false, false, false, false, false, false, false, false, false, false, false, false, false, false] rfl rfl (by kernel_rfl) (fun _ _ _ h => h) (Or.inl ⟨by rfl, ?_⟩) ?_ ?_
                rotate_left
                · intro w'
                  go_simp
                  with_reducible rfl
                rotate_left
                · simp only [Act.put, List.setIfInBounds_toArray, List.set_cons_zero, List.set_cons_succ, i64_w, i32_w]
                  rfl
                refine pure_ (i := 5) (N := some 80) (v := ?_) (a' := ?_) #[true, true, true, true, true, true, false, false, false, false, false, false, false, false, false, false, false, false, false] rfl rfl (by kernel_rfl) (fun _ _ _ h => h) (Or.inl ⟨by rfl, ?_⟩) ?_ ?_
                rotate_left
                · intro w'
                  go_simp
                  with_reducible rfl
                rotate_left
                · simp only [Act.put, List.setIfInBounds_toArray, List.set_cons_zero, List.set_cons_succ, i64_w, i32_w]
                  rfl
                refine pure_ (i := 6) (N := some 81) (v := ?_) (a' := ?_) #[true, true, true, true, true, true, true, false, false, false, false, false, false, false, false, false, false, false, false] rfl rfl (by kernel_rfl) (fun _ _ _ h => h) (Or.inl ⟨by rfl, ?_⟩) ?_ ?_
                rotate_left
                · intro w'
                  go_simp
                  with_reducible rfl
                rotate_left
                · simp only [Act.put, List.setIfInBounds_toArray, List.set_cons_zero, List.set_cons_succ, i64_w, i32_w]
                  rfl
                refine pure_ (i := 8) (N := some 83) (v := ?_) (a' := ?_) #[true, true, true, true, true, true, true, false, true, false, false, false, false, false, false, false, false, false, false] rfl rfl (by kernel_rfl) (fun _ _ _ h => h) (Or.inl ⟨by rfl, ?_⟩) ?_ ?_
                rotate_left
                · intro w'
                  go_simp
                  with_reducible rfl
                rotate_left
                · simp only [Act.put, List.setIfInBounds_toArray, List.set_cons_zero, List.set_cons_succ, i64_w, i32_w]
                  rfl
                refine pure_ (i := 9) (N := some 84) (v := ?_) (a' := ?_) #[true, true, true, true, true, true, true, false, true, true, false, false, false, false, false, false, false, false, false] rfl rfl (by kernel_rfl) (fun _ _ _ h => h) (Or.inl ⟨by rfl, ?_⟩) ?_ ?_
                rotate_left
                · intro w'
                  go_simp
                  with_reducible rfl
                rotate_left
                · simp only [Act.put, List.setIfInBounds_toArray, List.set_cons_zero, List.set_cons_succ, i64_w, i32_w]
                  rfl
                refine pure_ (i := 10) (N := some 85) (v := ?_) (a' := ?_) #[true, true, true, true, true, true, true, false, true, true, true, false, false, false, false, false, false, false, false] rfl rfl (by kernel_rfl) (fun _ _ _ h => h) (Or.inl ⟨by rfl, ?_⟩) ?_ ?_
                rotate_left
                · intro w'
                  go_simp
                  with_reducible rfl
                rotate_left
                · simp only [Act.put, List.setIfInBounds_toArray, List.set_cons_zero, List.set_cons_succ, i64_w, i32_w]
                  rfl
                refine pure_ (i := 11) (N := some 86) (v := ?_) (a' := ?_) #[true, true, true, true, true, true, true, false, true, true, true, true, false, false, false, false, false, false, false] rfl rfl (by kernel_rfl) (fun _ _ _ h => h) (Or.inl ⟨by rfl, ?_⟩) ?_ ?_
                rotate_left
                · intro w'
                  go_simp
                  with_reducible rfl
                rotate_left
                · simp only [Act.put, List.setIfInBounds_toArray, List.set_cons_zero, List.set_cons_succ, i64_w, i32_w]
                  rfl
                refine pure_ (i := 12) (N := some 87) (v := ?_) (a' := ?_) #[true, true, true, true, true, true, true, false, true, true, true, true, true, false, false, false, false, false, false] rfl rfl (by kernel_rfl) (fun _ _ _ h => h) (Or.inl ⟨by rfl, ?_⟩) ?_ ?_
                rotate_left
                · intro w'
                  go_simp
                  with_reducible rfl
                rotate_left
                · simp only [Act.put, List.setIfInBounds_toArray, List.set_cons_zero, List.set_cons_succ, i64_w, i32_w]
                  rfl
                refine pure_ (i := 15) (N := some 90) (v := ?_) (a' := ?_) #[true, true, true, true, true, true, true, false, true, true, true, true, true, false, false, true, false, false, false] rfl rfl (by kernel_rfl) (fun _ _ _ h => h) (Or.inl ⟨by rfl, ?_⟩) ?_ ?_
                rotate_left
                · intro w'
                  go_simp
                  with_reducible rfl
                rotate_left
                · simp only [Act.put, List.setIfInBounds_toArray, List.set_cons_zero, List.set_cons_succ, i64_w, i32_w]
                  rfl
                refine pure_ (i := 16) (N := some 91) (v := ?_) (a' := ?_) #[true, true, true, true, true, true, true, false, true, true, true, true, true, false, false, true, true, false, false] rfl rfl (by kernel_rfl) (fun _ _ _ h => h) (Or.inl ⟨by rfl, ?_⟩) ?_ ?_
                rotate_left
                · intro w'
                  go_simp
                  with_reducible rfl
                rotate_left
                · simp only [Act.put, List.setIfInBounds_toArray, List.set_cons_zero, List.set_cons_succ, i64_w, i32_w]
                  rfl
                refine take_ (i := 7) (N := some 82) (v := ?_) (a' := ?_) #[true, true, true, true, true, true, true, true, true, true, true, true, true, false, false, true, true, false, false] rfl rfl (by kernel_rfl) (fun _ _ _ h => h) (Or.inl ⟨by rfl, ?_⟩) hHeld ?_ ?_
                rotate_left
                · rintro w' ⟨s0, s1⟩
                  go_simp
                  with_reducible rfl
                rotate_left
                · simp only [Act.put, List.setIfInBounds_toArray, List.set_cons_zero, List.set_cons_succ, i64_w, i32_w]
                  rfl
                refine take_ (i := 13) (N := some 88) (v := ?_) (a' := ?_) #[true, true, true, true, true, true, true, true, true, true, true, true, true, true, false, true, true, false, false] rfl rfl (by kernel_rfl) (fun _ _ _ h => h) (Or.inl ⟨by rfl, ?_⟩) hHeld ?_ ?_
                rotate_left
                · rintro w' ⟨s0, s1⟩
                  go_simp
                  with_reducible rfl
                rotate_left
                · simp only [Act.put, List.setIfInBounds_toArray, List.set_cons_zero, List.set_cons_succ, i64_w, i32_w]
                  rfl
                refine pure_ (i := 14) (N := some 89) (v := ?_) (a' := ?_) #[true, true, true, true, true, true, true, true, true, true, true, true, true, true, true, true, true, false, false] rfl rfl (by kernel_rfl) (fun _ _ _ h => h) (Or.inl ⟨by rfl, ?_⟩) ?_ ?_
                rotate_left
                · intro w'
                  go_simp
                  with_reducible rfl
                rotate_left
                · simp only [Act.put, List.setIfInBounds_toArray, List.set_cons_zero, List.set_cons_succ, i64_w, i32_w]
                  rfl
                refine pure_ (i := 17) (N := some 92) (v := ?_) (a' := ?_) #[true, true, true, true, true, true, true, true, true, true, true, true, true, true, true, true, true, true, false] rfl rfl (by kernel_rfl) (fun _ _ _ h => h) (Or.inl ⟨by rfl, ?_⟩) ?_ ?_
                rotate_left
                · intro w'
                  go_simp
                  with_reducible rfl
                rotate_left
                · simp only [Act.put, List.setIfInBounds_toArray, List.set_cons_zero, List.set_cons_succ, i64_w, i32_w]
                  rfl
                refine last_ (i := 18) (N := none) #[true, true, true, true, true, true, true, true, true, true, true, true, true, true, true, true, true, true, true] rfl rfl (by kernel_rfl) (by decide) (fun K hK => ?_)
                refine skip_ (w1 := ?_) (by rfl) rfl ?_ ?_
                rotate_left
                · go_simp
                  rfl
                refine hK.out _ _ ?_
                clear hK K
                refine done_ (by kernel_rfl) ?_
                have F1b : Chunk ((wr.setCell ⟨g, i * 2, none⟩ (.int .u8 b1)).setCell ⟨g, i * 2 + 1, none⟩ (.int .u8 b2)).drew g ((halfC b cs i).set i (b1, b2)) (halfL ls i) (.slice none 0 0) := F1.out.below (below_drew (Below.refl _ _)) F1.out.lt
                have B1b : Below w.heap.size w ((wr.setCell ⟨g, i * 2, none⟩ (.int .u8 b1)).setCell ⟨g, i * 2 + 1, none⟩ (.int .u8 b2)).drew := below_drew (Below.setCell (Below.setCell HLP.out.below hgw _) hgw _)
                have K1b : ∀ k, k ≠ g → k < wb.heap.size → ((wr.setCell ⟨g, i * 2, none⟩ (.int .u8 b1)).setCell ⟨g, i * 2 + 1, none⟩ (.int .u8 b2)).drew.heap[k]? = wb.heap[k]? := fun k hk hl =>
                  (Below.heap_setCell _ ⟨g, i * 2 + 1, none⟩ _ k hk).trans ((Below.heap_setCell wr ⟨g, i * 2, none⟩ _ k hk).trans (HLP.out.far k hk hl))
                generalize ((wr.setCell ⟨g, i * 2, none⟩ (.int .u8 b1)).setCell ⟨g, i * 2 + 1, none⟩ (.int .u8 b2)).drew = w6 at F1b B1b K1b ⊢
                clear c0 c1 cf0 cf1 s1 s2 f1 f2 f3 f4 f5 f6 f7 p3 p4 p5 p6
                obtain ⟨y, hy⟩ : ∃ y : Nat, ls.getD i 0 = (y : Int) := ⟨(ls.getD i 0).toNat, by have := hr1 ls HLB.out i; omega⟩
                have hy8 : y < 256 := by have := hr1 ls HLB.out i; omega
                have s1 : w6.cell? ⟨g6, i, none⟩ = some (.int .u8 (y : Int)) := by
                  have h6 := HQ6b.out i hlt
                  rw [hy] at h6
                  rw [← h6]
                  unfold World.cell?
                  rw [K1b g6 (by omega) (World.block_lt_of_cell? wb ⟨g6, i, none⟩ h6)]
                have HY := Lib.hid hy
                obtain ⟨c0, c1⟩ := F1b.atL i hlt
                have cf0 := F1b.frz (8192 + i * 2)
                have cf1 := F1b.frz (8192 + i * 2 + 1)
                have F2 := Lib.hid (F1b.setL i hlt (lightOf (y : Int)))
                have HB1b := Lib.hid B1b
                have HK1b := Lib.hid K1b
                clear F1b B1b K1b hy
                go_wp2_with fail
                have e15 := tdiv16 y
                have e16 := tmod16 y
                have e17 := u8_wrap ((y : Int) / 16) (by omega) (by omega)
                have e18 := u8_wrap ((y : Int) % 16) (by omega) (by omega)
                refine start_ (n := 17) (S := fun w' => w'.cell? ⟨g6, i, none⟩ = some (.int .u8 (y : Int))) (ds := [16]) #[false, false, false, false, false, false, false, false, false, false, false, false, false, false, false, false, false] (by kernel_rfl) rfl rfl (s1) (fun hHeld => ?_)
                refine pure_ (i := 0) (N := some 93) (v := ?_) (a' := ?_) #[true, false, false, false, false, false, false, false, false, false, false, false, false, false, false, false, false] rfl rfl (by kernel_rfl) (fun _ _ _ h => h) (Or.inl ⟨by rfl, ?_⟩) ?_ ?_
                rotate_left
                · intro w'
                  go_simp
                  with_reducible rfl
                rotate_left
                · simp only [Act.put, List.setIfInBounds_toArray, List.set_cons_zero, List.set_cons_succ, i64_w, i32_w]
                  rfl
                refine pure_ (i := 1) (N := some 94) (v := ?_) (a' := ?_) #[true, true, false, false, false, false, false, false, false, false, false, false, false, false, false, false, false] rfl rfl (by kernel_rfl) (fun _ _ _ h => h) (Or.inl ⟨by rfl, ?_⟩) ?_ ?_
                rotate_left
                · intro w'
                  go_simp
                  with_reducible rfl
                rotate_left
                · simp only [Act.put, List.setIfInBounds_toArray, List.set_cons_zero, List.set_cons_succ, i64_w, i32_w]
                  rfl
                refine pure_ (i := 2) (N := some 95) (v := ?_) (a' := ?_) #[true, true, true, false, false, false, false, false, false, false, false, false, false, false, false, false, false] rfl rfl (by kernel_rfl) (fun _ _ _ h => h) (Or.inl ⟨by rfl, ?_⟩) ?_ ?_
                rotate_left
                · intro w'
                  go_simp
                  with_reducible rfl
                rotate_left
                · simp only [Act.put, List.setIfInBounds_toArray, List.set_cons_zero, List.set_cons_succ, i64_w, i32_w]
                  rfl
                refine pure_ (i := 3) (N := some 96) (v := ?_) (a' := ?_) #[true, true, true, true, false, false, false, false, false, false, false, false, false, false, false, false, false] rfl rfl (by kernel_rfl) (fun _ _ _ h => h) (Or.inl ⟨by rfl, ?_⟩) ?_ ?_
                rotate_left
                · intro w'
                  go_simp
                  with_reducible rfl
                rotate_left
                · simp only [Act.put, List.setIfInBounds_toArray, List.set_cons_zero, List.set_cons_succ, i64_w, i32_w]
                  rfl
                refine pure_ (i := 4) (N := some 97) (v := ?_) (a' := ?_) #[true, true, true, true, true, false, false, false, false, false, false, false, false, false, false, false, false] rfl rfl (by kernel_rfl) (fun _ _ _ h => h) (Or.inl ⟨by rfl, ?_⟩) ?_ ?_
                rotate_left
                · intro w'
                  go_simp
                  with_reducible rfl
                rotate_left
                · simp only [Act.put, List.setIfInBounds_toArray, List.set_cons_zero, List.set_cons_succ, i64_w, i32_w]
                  rfl
                refine pure_ (i := 7) (N := some 100) (v := ?_) (a' := ?_) #[true, true, true, true, true, false, false, true, false, false, false, false, false, false, false, false, false] rfl rfl (by kernel_rfl) (fun _ _ _ h => h) (Or.inl ⟨by rfl, ?_⟩) ?_ ?_
                rotate_left
                · intro w'
                  go_simp
                  with_reducible rfl
                rotate_left
                · simp only [Act.put, List.setIfInBounds_toArray, List.set_cons_zero, List.set_cons_succ, i64_w, i32_w]
                  rfl
                refine pure_ (i := 8) (N := some 101) (v := ?_) (a' := ?_) #[true, true, true, true, true, false, false, true, true, false, false, false, false, false, false, false, false] rfl rfl (by kernel_rfl) (fun _ _ _ h => h) (Or.inl ⟨by rfl, ?_⟩) ?_ ?_
                rotate_left
                · intro w'
                  go_simp
                  with_reducible rfl
                rotate_left
                · simp only [Act.put, List.setIfInBounds_toArray, List.set_cons_zero, List.set_cons_succ, i64_w, i32_w]
                  rfl
                refine pure_ (i := 9) (N := some 102) (v := ?_) (a' := ?_) #[true, true, true, true, true, false, false, true, true, true, false, false, false, false, false, false, false] rfl rfl (by kernel_rfl) (fun _ _ _ h => h) (Or.inl ⟨by rfl, ?_⟩) ?_ ?_
                rotate_left
                · intro w'
                  go_simp
                  with_reducible rfl
                rotate_left
                · simp only [Act.put, List.setIfInBounds_toArray, List.set_cons_zero, List.set_cons_succ, i64_w, i32_w]
                  rfl
                refine pure_ (i := 13) (N := some 106) (v := ?_) (a' := ?_) #[true, true, true, true, true, false, false, true, true, true, false, false, false, true, false, false, false] rfl rfl (by kernel_rfl) (fun _ _ _ h => h) (Or.inl ⟨by rfl, ?_⟩) ?_ ?_
                rotate_left
                · intro w'
                  go_simp
                  with_reducible rfl
                rotate_left
                · simp only [Act.put, List.setIfInBounds_toArray, List.set_cons_zero, List.set_cons_succ, i64_w, i32_w]
                  rfl
                refine pure_ (i := 14) (N := some 107) (v := ?_) (a' := ?_) #[true, true, true, true, true, false, false, true, true, true, false, false, false, true, true, false, false] rfl rfl (by kernel_rfl) (fun _ _ _ h => h) (Or.inl ⟨by rfl, ?_⟩) ?_ ?_
                rotate_left
                · intro w'
                  go_simp
                  with_reducible rfl
                rotate_left
                · simp only [Act.put, List.setIfInBounds_toArray, List.set_cons_zero, List.set_cons_succ, i64_w, i32_w]
                  rfl
                refine take_ (i := 5) (N := some 98) (v := ?_) (a' := ?_) #[true, true, true, true, true, true, false, true, true, true, false, false, false, true, true, false, false] rfl rfl (by kernel_rfl) (fun _ _ _ h => h) (Or.inl ⟨by rfl, ?_⟩) hHeld ?_ ?_
                rotate_left
                · intro w' s0
                  go_simp
                  with_reducible rfl
                rotate_left
                · simp only [Act.put, List.setIfInBounds_toArray, List.set_cons_zero, List.set_cons_succ, i64_w, i32_w]
                  rfl
                refine pure_ (i := 6) (N := some 99) (v := ?_) (a' := ?_) #[true, true, true, true, true, true, true, true, true, true, false, false, false, true, true, false, false] rfl rfl (by kernel_rfl) (fun _ _ _ h => h) (Or.inl ⟨by rfl, ?_⟩) ?_ ?_
                rotate_left
                · intro w'
                  go_simp
                  with_reducible rfl
                rotate_left
                · simp only [Act.put, List.setIfInBounds_toArray, List.set_cons_zero, List.set_cons_succ, i64_w, i32_w]
                  rfl
                refine take_ (i := 10) (N := some 103) (v := ?_) (a' := ?_) #[true, true, true, true, true, true, true, true, true, true, true, false, false, true, true, false, false] rfl rfl (by kernel_rfl) (fun _ _ _ h => h) (Or.inl ⟨by rfl, ?_⟩) hHeld ?_ ?_
                rotate_left
                · intro w' s0
                  go_simp
                  with_reducible rfl
                rotate_left
                · simp only [Act.put, List.setIfInBounds_toArray, List.set_cons_zero, List.set_cons_succ, i64_w, i32_w]
                  rfl
                refine pure_ (i := 11) (N := some 104) (v := ?_) (a' := ?_) #[true, true, true, true, true, true, true, true, true, true, true, true, false, true, true, false, false] rfl rfl (by kernel_rfl) (fun _ _ _ h => h) (Or.inl ⟨by rfl, ?_⟩) ?_ ?_
                rotate_left
                · intro w'
                  go_simp
                  with_reducible rfl
                rotate_left
                · simp only [Act.put, List.setIfInBounds_toArray, List.set_cons_zero, List.set_cons_succ, i64_w, i32_w]
                  rfl
                refine pure_ (i := 12) (N := some 105) (v := ?_) (a' := ?_) #[true, true, true, true, true, true, true, true, true, true, true, true, true, true, true, false, false] rfl rfl (by kernel_rfl) (fun _ _ _ h => h) (Or.inl ⟨by rfl, ?_⟩) ?_ ?_
                rotate_left
                · intro w'
                  go_simp
                  with_reducible rfl
                rotate_left
                · simp only [Act.put, List.setIfInBounds_toArray, List.set_cons_zero, List.set_cons_succ, i64_w, i32_w]
                  rfl
                refine pure_ (i := 15) (N := some 108) (v := ?_) (a' := ?_) #[true, true, true, true, true, true, true, true, true, true, true, true, true, true, true, true, false] rfl rfl (by kernel_rfl) (fun _ _ _ h => h) (Or.inl ⟨by rfl, ?_⟩) ?_ ?_
                rotate_left
                · intro w'
                  go_simp
                  with_reducible rfl
                rotate_left
                · simp only [Act.put, List.setIfInBounds_toArray, List.set_cons_zero, List.set_cons_succ, i64_w, i32_w]
                  rfl
                refine last_ (i := 16) (N := none) #[true, true, true, true, true, true, true, true, true, true, true, true, true, true, true, true, true] rfl rfl (by kernel_rfl) (by decide) (fun K hK => ?_)
                refine skip_ (w1 := ?_) (by rfl) rfl ?_ ?_
                rotate_left
                · go_simp
                  rfl
                refine hK.out _ _ ?_
                clear hK K
                refine done_ (by kernel_rfl) ?_
                have F2b : Chunk ((w6.setCell ⟨g, 8192 + i * 2, none⟩ (.int .u8 ((y : Int) / 16))).setCell ⟨g, 8192 + i * 2 + 1, none⟩ (.int .u8 ((y : Int) % 16))).drew g (halfC b cs (i + 1)) (halfL ls (i + 1)) (.slice none 0 0) := by
                  have h := F2.out.below (below_drew (Below.refl _ _)) F2.out.lt
                  have h1 := half_set (palAt b) cs HCL.out i hlt
                  have h2 := half_set lightOf ls HLL.out i hlt
                  rw [HPA.out] at h1
                  rw [HY.out] at h2
                  unfold halfC halfL at h ⊢
                  rw [h1, h2] at h
                  exact h
                have B2b : Below w.heap.size w ((w6.setCell ⟨g, 8192 + i * 2, none⟩ (.int .u8 ((y : Int) / 16))).setCell ⟨g, 8192 + i * 2 + 1, none⟩ (.int .u8 ((y : Int) % 16))).drew := below_drew (Below.setCell (Below.setCell HB1b.out hgw _) hgw _)
                have K2b : ∀ k, k ≠ g → k < wb.heap.size → ((w6.setCell ⟨g, 8192 + i * 2, none⟩ (.int .u8 ((y : Int) / 16))).setCell ⟨g, 8192 + i * 2 + 1, none⟩ (.int .u8 ((y : Int) % 16))).drew.heap[k]? = wb.heap[k]? := fun k hk hl =>
                  (Below.heap_setCell _ ⟨g, 8192 + i * 2 + 1, none⟩ _ k hk).trans ((Below.heap_setCell w6 ⟨g, 8192 + i * 2, none⟩ _ k hk).trans (HK1b.out k hk hl))
                generalize ((w6.setCell ⟨g, 8192 + i * 2, none⟩ (.int .u8 ((y : Int) / 16))).setCell ⟨g, 8192 + i * 2 + 1, none⟩ (.int .u8 ((y : Int) % 16))).drew = w7 at F2b B2b K2b ⊢
                have HG := Lib.hid (⟨B2b, K2b, F2b⟩ : Lq w wb w7 g b cs ls (i + 1))
                clear F2b B2b K2b c0 c1 cf0 cf1 s1 e15 e16 e17 e18 F1 F2
                go_wp2
                go_roundw
                case rel => exact ⟨i + 1, by omega, by go_num, ⟨HG.out⟩⟩
                case measure => simp [intOf]; omega
              · have d5 := decide_eq_true (show (k : Int) ≤ (x : Int) by omega)
                have hF := Lib.hid (show ∀ C L T, ¬ Pk b C L T from fun C L T h => by
                  obtain ⟨⟨h1, _⟩, h2⟩ := HP2.out C L T h
                  have hm : (cs.getD i 0) ∈ cs := by
                    rw [List.getD_eq_getElem?_getD, List.getElem?_eq_getElem (by rw [HCL.out]; exact hlt)]
                    exact List.getElem_mem _
                  rw [HX.out, h1] at hm
                  have := h.below _ hm
                  omega)
                go_wp2
                go_ret2
                exact ⟨.inl ⟨rfl, hF.out⟩, HLP.out.below⟩
            · obtain rfl : i = 4096 := by omega
              have hC : halfC b cs 4096 = cs.map (palAt b) := by
                unfold halfC
                rw [List.take_of_length_le (by rw [HCL.out]; exact Nat.le_refl _), Nat.sub_self]
                simp
              have hL : halfL ls 4096 = ls.map lightOf := by
                unfold halfL
                rw [List.take_of_length_le (by rw [HLL.out]; exact Nat.le_refl _), Nat.sub_self]
                simp
              have hch := HLP.out.ch
              rw [hC, hL] at hch
              have HCH := Lib.hid hch
              have HBR := Lib.hid HLP.out.below
              obtain ⟨Cf, hCf⟩ : ∃ Cf, cs.map (palAt b) = Cf := ⟨_, rfl⟩
              obtain ⟨Lf, hLf⟩ : ∃ Lf, ls.map lightOf = Lf := ⟨_, rfl⟩
              rw [hCf, hLf] at HCH
              have HP3 := Lib.hid (show ∀ C L T, Pk b C L T → C = Cf ∧ L = Lf ∧ r2 = tailT T from fun C L T h => by
                obtain ⟨⟨h1, h2, h3⟩, _⟩ := HP2.out C L T h
                exact ⟨by rw [← hCf, h1, h.cells], by rw [← hLf, h2, h.light], h3⟩)
              have HUC := Lib.hid (show U8 Cf from fun p hp => by
                rw [← hCf] at hp
                obtain ⟨x, _, rfl⟩ := List.mem_map.1 hp
                exact ⟨hr1 b HB.out _, hr1 b HB.out _⟩)
              have HUL := Lib.hid (show U8 Lf from fun p hp => by
                rw [← hLf] at hp
                obtain ⟨x, hx, rfl⟩ := List.mem_map.1 hp
                have := HLB.out x hx
                unfold lightOf
                simp only
                omega)
              clear hC hL hch hCf hLf HP2
              have hgl : g < wr.heap.size := HLP.out.ch.lt
              obtain ⟨A3, hcut3, hrd3, hA3⟩ := cutFrom (some ad) b c at3 hat3l HC.out
              have hl3 : (b.drop at3).length = b.length - at3 := List.length_drop
              have hti := Lib.hid (rticks_calls A3 (c - at3) b r2 wr (by
                have := hrd3 wr (HR.out.below HBR.out)
                rw [HD3.out] at this
                exact this) (by rw [HR2.out]; have := HC.out; omega) (by rw [← HD3.out]; exact HB.out.drop _) (by rw [HR2.out]; omega) (fun C0 L0 T0 hp => (HP3.out C0 L0 T0 hp).2.2) (b.length - at3) HR2.out)
              clear hrd3 hA3 hl3 d0 d0' d1 i0 hlen z1 z2 hat1l hat2l hk8 HLP
              go_wp2_with fail
              refine hti.out.mono ?_; rintro e wt ⟨T, vt, is, rfl, hrt, hT4, hpt, hbt⟩
              have HBT := Lib.hid (below_step HBR.out hbt)
              have HCT := Lib.hid (HCH.out.below hbt HCH.out.lt)
              have HPT := Lib.hid hpt
              obtain ⟨At, ct, rfl, hct, _⟩ := Kd.R_reads hrt
              have HRT := Lib.hid (Kd.R_mono (Kd.R_bound hrt) (fun k hk => (show k ≠ g by have := hk.2.1; omega)))
              have t7 := HCT.out.atT
              have cf7 := HCT.out.frz 16384
              have HTK := Lib.hid (show TK (wt.setCell ⟨g, 16384, none⟩ (.slice At T.length ct)) (.slice At T.length ct) T from ⟨At, ct, rfl, hct, (Kd.R_reads' (Kd.R_far HRT.out (p := ⟨g, 16384, none⟩) (fun k hk => hk) (.slice At T.length ct))).2.2⟩)
              have HCS := Lib.hid (HCT.out.setT (.slice At T.length ct))
              have HBS := Lib.hid (show Below w.heap.size w (wt.setCell ⟨g, 16384, none⟩ (.slice At T.length ct)) from Below.setCell HBT.out hgw _)
              clear hrt hct hbt hti hcut3 hpt
              have hlen9 : T.length ≤ 1000000 := by omega
              cases is with
              | false =>
                have hF := Lib.hid (show ∀ C L T', ¬ Pk b C L T' from fun C L T' h => by
                  have := (HPT.out C L T' h).1
                  cases this)
                have hput := Lib.hid (rput_both g Cf Lf T _ _ HCS.out HTK.out HUC.out HUL.out hlen9)
                clear HCT HRT
                go_wp2_with fail
                refine hput.out.mono ?_; rintro e wp ⟨vp, rfl, _, hbp⟩
                have HBP := Lib.hid (below_step HBS.out hbp)
                clear hbp hput
                go_wp2
                go_ret2
                exact ⟨.inl ⟨rfl, hF.out⟩, HBP.out⟩
              | true =>
                have hFs := Lib.hid (show ∀ C L T', Pk b C L T' → C = Cf ∧ L = Lf ∧ T' = T from fun C L T' h => ⟨(HP3.out C L T' h).1, (HP3.out C L T' h).2.1, (HPT.out C L T' h).2⟩)
                obtain ⟨Au, cu, hvu, hcu, hku⟩ := HTK.out
                cases hm0 : mayB Cf Lf T with
                | false =>
                  have hput := Lib.hid (rput_no g Cf Lf T Au cu _ (hvu ▸ HCS.out) hku HUC.out HUL.out (by omega) hm0)
                  have hF := Lib.hid (show ∀ C L T', ¬ Pk b C L T' from fun C L T' h => by
                    obtain ⟨rfl, rfl, rfl⟩ := hFs.out C L T' h
                    rw [h.may] at hm0
                    cases hm0)
                  clear hm0 hku hcu hvu HCT HRT
                  go_wp2_with fail
                  refine hput.out.mono ?_; rintro e wp ⟨rfl, hbp⟩
                  have HBP := Lib.hid (below_step HBS.out hbp)
                  clear hbp hput
                  go_wp2
                  go_ret2
                  exact ⟨.inl ⟨rfl, hF.out⟩, HBP.out⟩
                | true =>
                  have hput := Lib.hid (rput_calls g Cf Lf T Au cu _ (hvu ▸ HCS.out) hku HUC.out HUL.out hlen9 hm0)
                  have hPB := Lib.hid (pack_bytes HUC.out HUL.out HCS.out.lenC HCS.out.lenL hm0)
                  have HM0 := Lib.hid hm0
                  clear hm0 hku hcu hvu HCT HRT
                  go_wp2_with fail
                  refine hput.out.mono ?_; rintro e wp ⟨vp, rfl, hop, hbp⟩
                  obtain ⟨Ap, cp, rfl, hcp, hrp⟩ := OB.slice hop
                  have HBP := Lib.hid (below_step HBS.out hbp)
                  have HCP := Lib.hid (HCS.out.below hbp HCS.out.lt)
                  have HTP := Lib.hid (TK.below HTK.out hbp)
                  have k1 := string_of (packB Cf Lf T) Ap cp wp hrp
                  have k2 := string_of b (some ad) c wp (HR.out.below HBP.out)
                  clear hop hcp hrp hbp hput t7 cf7
                  by_cases hpb : packB Cf Lf T = b
                  · have HPK := Lib.hid (⟨HCP.out.lenC, HCP.out.lenL, HUC.out, HUL.out, HM0.out, hpb⟩ : Pk b Cf Lf T)
                    rw [hpb] at k1
                    have eT := BS.beq_same (strOfNums b)
                    rw [hpb]
                    clear hpb
                    go_wp2
                    go_ret2
                    exact ⟨.inr ⟨g, Cf, Lf, T, _, rfl, HCP.out, HTP.out, HPK.out⟩, HBP.out⟩
                  · have hF := Lib.hid (show ∀ C L T', ¬ Pk b C L T' from fun C L T' h => by
                      obtain ⟨rfl, rfl, rfl⟩ := hFs.out C L T' h
                      exact hpb h.eq)
                    have eT := BS.beq_not (fun e => hpb (BS.str_inj hPB.out HB.out e))
                    clear hpb
                    go_wp2
                    go_ret2
                    exact ⟨.inl ⟨rfl, hF.out⟩, HBP.out⟩
end Go.Proofs.Ytkecppgodmbmlaa.PK

namespace Go.Proofs.Ytkecppgodmbmlaa.PK
open Go.RowKit Go.Proofs.YtkecppgodmbmlaaW.PrintWords Go.Proofs.YtkecppgodmbmlaaW.PrintLast Go.Proofs.YtkecppgodmbmlaaW.PrintMore Go.Proofs.Ytkecppgodmbmlaa.CD Go.Proofs.Ytkecppgodmbmlaa.BR
attribute [local go_sem] max2_int min2_int max_two min_two max_three min_three max_four min_four
set_option linter.unusedVariables false
set_option linter.unusedSimpArgs false
abbrev bw (W : World) (t : ByteArray) : World := Lib.bytesWorld W 5 t
theorem bytes_run (t : ByteArray) (W : World) : (convert 9 26 (.string t)).run Try.prog W = .ok (.slice (some ⟨W.heap.size, 0, none⟩) t.size (grownCap W t.size 0 5)) (bw W t) := print_bytes (P := Try.prog) 9 26 5 Try.underlying9 Try.underlying26 Try.underlying5 t W
theorem bw_below (W : World) (t : ByteArray) : Below W.heap.size W (bw W t) := bytes_below (Below.refl _ _) (Nat.le_refl _) 5 t
theorem bw_reads (W : World) (t : ByteArray) (ht : t.size ≤ 9223372036854775807) : ReadsInt (bw W t) .u8 (some ⟨W.heap.size, 0, none⟩) (bytesOf t).length (bytesOf t) := by
  rw [bytesOf_length]; exact bytes_reads W 5 t ht
theorem pgetstr_calls (s : ByteArray) (W : World) (hs : s.size ≤ 140737488355328) :
    Calls Try.prog 18 #[.slice (some ⟨W.heap.size, 0, none⟩) s.size (grownCap W s.size 0 5)] (bw W s) (GetsC (bytesOf s) (bw W s)) := by
  have h := pget_calls (some ⟨W.heap.size, 0, none⟩) (grownCap W s.size 0 5) (bytesOf s) (bw W s) (bw_reads W s (by omega)) (by rw [bytesOf_length]; exact grownCap_ge _ _ _ _) (BS.bytes_bytesOf s) (by rw [bytesOf_length]; exact hs)
  rw [bytesOf_length] at h
  exact h
end Go.Proofs.Ytkecppgodmbmlaa.PK

namespace Go.Proofs.Ytkecppgodmbmlaa.PK
open Go.RowKit Go.Proofs.YtkecppgodmbmlaaW.PrintWords Go.Proofs.YtkecppgodmbmlaaW.PrintLast Go.Proofs.YtkecppgodmbmlaaW.PrintMore Go.Proofs.Ytkecppgodmbmlaa.CD Go.Proofs.Ytkecppgodmbmlaa.BR
attribute [local go_sem] max2_int min2_int max_two min_two max_three min_three max_four min_four
set_option linter.unusedVariables false
set_option linter.unusedSimpArgs false
theorem rgetstr_calls (s : ByteArray) (W : World) (hs : s.size ≤ 1000000) :
    Calls Try.prog 19 #[.slice (some ⟨W.heap.size, 0, none⟩) s.size (grownCap W s.size 0 5)] (bw W s) (GetsR (bytesOf s) (bw W s)) := by
  have h := rgetc_calls (some ⟨W.heap.size, 0, none⟩) (grownCap W s.size 0 5) (bytesOf s) (bw W s) (bw_reads W s (by omega)) (by rw [bytesOf_length]; exact grownCap_ge _ _ _ _) (BS.bytes_bytesOf s) (by rw [bytesOf_length]; exact hs)
  rw [bytesOf_length] at h
  exact h
set_option maxHeartbeats 1000000 in
set_option maxRecDepth 100000 in
theorem getsLaw (s : ByteArray) (w : World) (hs : s.size ≤ 140737488351232) :
    Calls Try.prog 6 #[.string s] w fun e w' => e = .returned (.bool true) ∧ Below w.heap.size w w' := by
  obtain ⟨q, hqq⟩ : ∃ q : Nat, q = min s.size 70000 := ⟨_, rfl⟩
  have kmin2 : (if (70000 : Int) < (s.size : Int) then (70000 : Int) else (s.size : Int)) = (q : Int) := by split <;> omega
  have hq1 : (q : Int) ≤ (s.size : Int) := by omega
  have hq0 : (0 : Int) ≤ (q : Int) := by omega
  obtain ⟨t, ht⟩ : ∃ t, t = s.extract 0 q := ⟨_, rfl⟩
  have htl : t.size ≤ 70000 := by rw [ht, ByteArray.size_extract]; omega
  have kt := ht.symm
  have HG := Lib.hid (fun W => pgetstr_calls t W (by omega))
  have HG2 := Lib.hid (fun W => rgetstr_calls t W (by omega))
  have kb := bytes_run t
  have eT := BS.beq_same t
  have eS := Lib.hid (BS.str_bytesOf t)
  have HRW := Lib.hid (show ReadsInt (bw w t) .u8 (some ⟨w.heap.size, 0, none⟩) (bytesOf t).length (bytesOf t) from bw_reads w t (by omega))
  have HRL := Lib.hid (bytesOf_length t)
  clear hqq ht
  go_enter Try.func6, Try.ntmps6
  go_wp2_with fail
  refine (HG.out _).mono ?_; rintro e w1 ⟨⟨rfl, hF⟩ | ⟨C, L, T, v, rfl, hch, htk, hpk⟩, hb1⟩
  · have HB1 := Lib.hid (below_step (bw_below w t) hb1)
    have HR1 := Lib.hid (HRW.out.below hb1)
    clear hb1
    go_wp2_with fail
    refine (HG2.out _).mono ?_; rintro e w2 ⟨⟨rfl, hF2⟩ | ⟨g, C, L, T, v, rfl, hch, htk, hpk⟩, hb2⟩
    · have HB2 := Lib.hid (below_step (below_step HB1.out (bw_below w1 t)) hb2)
      have kc := string_of (bytesOf t) (some ⟨w.heap.size, 0, none⟩) (grownCap w t.size 0 5) w2 ((HR1.out.below (bw_below w1 t)).below hb2)
      rw [eS.out, HRL.out] at kc
      clear hF hF2 hb2
      go_wp2_with fail
      refine (works_calls _).mono ?_; rintro e w3 ⟨rfl, hb3⟩
      have HB3 := Lib.hid (below_step HB2.out hb3)
      clear hb3 kc
      go_wp2
      go_ret
      exact ⟨rfl, HB3.out⟩
    · exact absurd hpk (hF _ _ _)
  · have HB1 := Lib.hid (below_step (bw_below w t) hb1)
    have HR1 := Lib.hid (HRW.out.below hb1)
    have HC1 := Lib.hid hch
    have HT1 := Lib.hid htk
    have HP1 := Lib.hid hpk
    clear hb1 hch htk hpk
    go_wp2_with fail
    refine (HG2.out _).mono ?_; rintro e w2 ⟨⟨rfl, hF2⟩ | ⟨g, C', L', T', v', rfl, hch, htk, hpk⟩, hb2⟩
    · exact absurd HP1.out (hF2 _ _ _)
    · obtain ⟨rfl, rfl, rfl⟩ := pk_one HP1.out hpk
      have HB2 := Lib.hid (below_step (below_step HB1.out (bw_below w1 t)) hb2)
      have kc := string_of (bytesOf t) (some ⟨w.heap.size, 0, none⟩) (grownCap w t.size 0 5) w2 ((HR1.out.below (bw_below w1 t)).below hb2)
      rw [eS.out, HRL.out] at kc
      have hc2 := (HC1.out.below (bw_below w1 t) HC1.out.lt)
      have hs := Lib.hid (rsame_calls _ _ C L T v v' w2 (hc2.below hb2 hc2.lt) hch (TK.below (TK.below HT1.out (bw_below w1 t)) hb2) htk (by have := HP1.out.few; omega))
      clear hb2 hch htk hpk hc2
      go_wp2_with fail
      refine hs.out.mono ?_; rintro e w3 ⟨rfl, hb3⟩
      have HB3 := Lib.hid (below_step HB2.out hb3)
      clear hb3 hs kc
      go_wp2_with fail
      refine (works_calls _).mono ?_; rintro e w4 ⟨rfl, hb4⟩
      have HB4 := Lib.hid (below_step HB3.out hb4)
      clear hb4
      go_wp2
      go_ret
      exact ⟨rfl, HB4.out⟩
end Go.Proofs.Ytkecppgodmbmlaa.PK
