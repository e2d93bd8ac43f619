/- Plain laws that the claim of FnExactReversePolynomial reaches: numbers modulo a prime, lists, and what the printed functions answer. -/
import Derived.RowKit
import Derived.Test.YtfbehafhiialcaaWWords
import Derived.Test.YtfbehafhiialcaaWMore
import Derived.Test.YtfbehafhiialcaaHx0
import Derived.Test.YtfbehafhiialcaaMabcd1
import Derived.Test.YtfbehafhiialcaaMc1
import Derived.Test.YtfbehafhiialcaaMabcd2
import Derived.Test.YtfbehafhiialcaaMabcd3
import Derived.Test.YtfbehafhiialcaaMac1
import Derived.Test.YtfbehafhiialcaaMacd1
import Derived.Test.YtfbehafhiialcaaMc2
set_option linter.unusedVariables false
set_option linter.unusedSimpArgs false
namespace Go.Proofs.Ytfbehafhiialcaa.Num
open Go.RowKit
theorem w64 {x : Int} (h1 : -9223372036854775808 ≤ x) (h2 : x ≤ 9223372036854775807) : wrap64 x = x := by
  unfold wrap64; omega
theorem tmod_nn {a b : Int} (h : 0 ≤ a) : Int.tmod a b = a % b := Int.tmod_eq_emod_of_nonneg h
theorem mul_bd {x y a b : Int} (hx0 : 0 ≤ x) (hx : x ≤ a) (hy0 : 0 ≤ y) (hy : y ≤ b) : 0 ≤ x * y ∧ x * y ≤ a * b :=
  ⟨Int.mul_nonneg hx0 hy0, Int.mul_le_mul hx hy hy0 (by omega)⟩
/-- what trial division tells -/
def Pr (p : Nat) : Prop := 2 ≤ p ∧ ∀ d, d ∣ p → d = 1 ∨ d = p
theorem Pr.of_trial {p : Nat} (h2 : 2 ≤ p) (h : ∀ d, 2 ≤ d → d * d ≤ p → p % d ≠ 0) : Pr p := by
  refine ⟨h2, fun d hd => ?_⟩
  obtain ⟨e, he⟩ := hd
  have hd0 : 0 < d := by rcases Nat.eq_zero_or_pos d with h0 | h0; (subst h0; simp at he; omega); exact h0
  have he0 : 0 < e := by rcases Nat.eq_zero_or_pos e with h0 | h0; (subst h0; simp at he; omega); exact h0
  rcases Nat.lt_or_ge d 2 with h1 | h1
  · left; omega
  rcases Nat.lt_or_ge e 2 with h3 | h3
  · right
    have : e = 1 := by omega
    subst this; simpa using he.symm
  · exfalso
    rcases Nat.le_total d e with hle | hle
    · refine h d h1 ?_ ?_
      · rw [he]; exact Nat.mul_le_mul_left d hle
      · rw [he]; exact Nat.mul_mod_right d e
    · refine h e h3 ?_ ?_
      · rw [he]; exact Nat.mul_le_mul_right e hle
      · rw [he]; exact Nat.mul_mod_left d e
/-- is it a prime of the program's? -/
def IsP (p : Int) : Prop := 2 ≤ p ∧ p ≤ 10007 ∧ Pr p.toNat
open Classical in
/-- the same as a bool -/
noncomputable def primeB (p : Int) : Bool := decide (IsP p)
theorem primeB_iff {p : Int} : primeB p = true ↔ IsP p := by
  unfold primeB; exact @decide_eq_true_iff _ (Classical.propDecidable _)
theorem prime_loop (l : Nat → Int → Int → Option Bool) (p : Int) (hp : 2 ≤ p) (hp2 : p ≤ 10007)
    (hl : ∀ k i, l (k + 1) p i = if wrap64 (i * i) ≤ p then (if i = 0 then none else (if Int.tmod p i = 0 then some false else l k p (wrap64 (i + 1)))) else some true)
    (d : Nat) : ∀ (k : Nat) (i : Int), 2 ≤ i → i ≤ 101 → 101 - i < d → d < k →
      ∃ b, l k p i = some b ∧ (b = true ↔ ∀ j : Int, i ≤ j → j * j ≤ p → p % j ≠ 0) := by
  induction d with
  | zero => intro k i h1 h2 h3; omega
  | succ d ih =>
    intro k i h1 h2 h3 hk
    obtain ⟨k, rfl⟩ : ∃ m, k = m + 1 := ⟨k - 1, by omega⟩
    rw [hl]
    have hb := mul_bd (a := 101) (b := 101) (x := i) (y := i) (by omega) h2 (by omega) h2
    rw [w64 (by omega) (by omega), w64 (x := i + 1) (by omega) (by omega)]
    by_cases hle : i * i ≤ p
    · have hi : i ≤ 100 := by
        rcases Int.lt_or_le 100 i with h | h
        · have := Int.mul_le_mul (a := 101) (b := 101) (c := i) (d := i) (by omega) (by omega) (by omega) (by omega); omega
        · exact h
      rw [if_pos hle, if_neg (by omega), tmod_nn (by omega)]
      by_cases hd : p % i = 0
      · rw [if_pos hd]
        exact ⟨false, rfl, by simp; exact ⟨i, Int.le_refl _, hle, hd⟩⟩
      · rw [if_neg hd]
        obtain ⟨b, hb1, hb2⟩ := ih k (i + 1) (by omega) (by omega) (by omega) (by omega)
        refine ⟨b, hb1, hb2.trans ⟨fun h j hj hjj => ?_, fun h j hj hjj => h j (by omega) hjj⟩⟩
        by_cases e : j = i
        · subst e; exact hd
        · exact h j (by omega) hjj
    · rw [if_neg hle]
      refine ⟨true, rfl, by simp; intro j hj hjj; exfalso; apply hle; exact Int.le_trans (Int.mul_le_mul hj hj (by omega) (by omega)) hjj⟩
theorem trial_iff {p : Int} (hp : 2 ≤ p) : (∀ j : Int, 2 ≤ j → j * j ≤ p → p % j ≠ 0) ↔ Pr p.toNat := by
  constructor
  · intro h
    refine Pr.of_trial (by omega) fun d hd hdd h0 => ?_
    refine h d (by omega) ?_ ?_
    · have : ((d * d : Nat) : Int) ≤ p := by omega
      simpa using this
    · have : ((p.toNat % d : Nat) : Int) = 0 := by rw [h0]; rfl
      rw [Int.natCast_emod, Int.toNat_of_nonneg (by omega)] at this
      exact this
  · intro h j hj hjj h0
    obtain ⟨d, rfl⟩ : ∃ d : Nat, j = d := ⟨j.toNat, by omega⟩
    obtain ⟨n, rfl⟩ : ∃ n : Nat, p = n := ⟨p.toNat, by omega⟩
    simp only [Int.toNat_natCast] at h
    have hdv : d ∣ n := by
      apply Nat.dvd_of_mod_eq_zero
      have : ((n % d : Nat) : Int) = 0 := by rw [Int.natCast_emod]; exact h0
      omega
    have hn : d * d ≤ n := by
      have : ((d * d : Nat) : Int) ≤ n := by simpa using hjj
      omega
    rcases h.2 d hdv with e | e
    · omega
    · subst e
      have : d * 2 ≤ d * d := Nat.mul_le_mul_left d (by omega)
      omega
theorem primeB_loop {p : Int} {b : Bool} (h1 : 2 ≤ p) (h2 : p ≤ 10007) (h : b = true ↔ ∀ j : Int, 2 ≤ j → j * j ≤ p → p % j ≠ 0) : b = primeB p := by
  rw [Bool.eq_iff_iff, primeB_iff, h, trial_iff h1]
  exact ⟨fun h => ⟨h1, h2, h⟩, fun h => h.2.2⟩
theorem primeB_lo {p : Int} (h : ¬ 2 ≤ p) : primeB p = false := by
  rw [Bool.eq_false_iff]; intro e; exact h (primeB_iff.1 e).1
theorem primeB_hi {p : Int} (h : ¬ p ≤ 10007) : primeB p = false := by
  rw [Bool.eq_false_iff]; intro e; exact h (primeB_iff.1 e).2.1
end Go.Proofs.Ytfbehafhiialcaa.Num
namespace Go.Proofs.Ytfbehafhiialcaa.H
open Go.RowKit Go.Proofs.YtfbehafhiialcaaW.PrintWords Go.Proofs.YtfbehafhiialcaaW.PrintLast Go.Proofs.YtfbehafhiialcaaW.PrintMore Go.Proofs.Ytfbehafhiialcaa.Num
theorem Ev.succ {α : Type} {g : Nat → Option α} {r : α} (h : Ev (fun k => g (k + 1)) r) : Ev g r := by
  obtain ⟨K, h⟩ := h
  refine ⟨K + 1, fun k hk => ?_⟩
  obtain ⟨m, rfl⟩ : ∃ m, k = m + 1 := ⟨k - 1, by omega⟩
  exact h m (by omega)
theorem Ev_to {α : Type} {g : Nat → Option α} {r r' : α} (h : Ev g r) (e : r = r') : Ev g r' := e ▸ h
theorem wp1 {i : Nat} (h : i ≤ 1000000000000) : wrap64 ((i : Int) + 1) = ((i + 1 : Nat) : Int) := by rw [w64 (by omega) (by omega)]; omega
theorem wm1 {i : Nat} (h : i ≤ 1000000000000) : wrap64 ((i : Int) - 1) = (i : Int) - 1 := w64 (by omega) (by omega)
theorem ws1 {i : Nat} : ((i + 1 : Nat) : Int) - 1 = (i : Int) := by omega
theorem rd_n (l : List Int) (i : Nat) : rd l (i : Int) = l.getD i 0 := by simp [rd]
theorem rd_lt (l : List Int) (i : Nat) (h : i < l.length) : rd l (i : Int) = l[i] := by simp [rd, h]
theorem wn {i : Nat} (h : i ≤ 1000000000000) : wrap64 ((i : Int) + 1) = ((i + 1 : Nat) : Int) := by rw [w64 (by omega) (by omega)]; omega
theorem toI_loop (l : List Int) (hl : l.length ≤ 1000000000) (d : Nat) : ∀ (k i : Nat) (acc : List Int), i + d = l.length → acc.length = l.length → acc.take i = l.take i → d < k → laws_toInt64S.l0 k l acc (i : Int) = some l := by
  induction d with
  | zero =>
    intro k i acc h1 h2 h3 hk
    obtain ⟨k, rfl⟩ : ∃ m, k = m + 1 := ⟨k - 1, by omega⟩
    simp only [laws_toInt64S.l0]
    rw [if_neg (by omega)]
    have : acc = l := by
      have e1 : acc.take i = acc := List.take_of_length_le (by omega)
      have e2 : l.take i = l := List.take_of_length_le (by omega)
      rw [e1, e2] at h3; exact h3
    rw [this]
  | succ d ih =>
    intro k i acc h1 h2 h3 hk
    obtain ⟨k, rfl⟩ : ∃ m, k = m + 1 := ⟨k - 1, by omega⟩
    simp only [laws_toInt64S.l0]
    rw [if_pos (by omega), if_pos (by omega), if_pos (by omega), wn (by omega), rd_lt l i (by omega), Int.toNat_natCast]
    refine ih k (i + 1) _ (by omega) (by simpa using h2) ?_ (by omega)
    rw [List.take_succ_eq_append_getElem (by simp; omega), List.take_succ_eq_append_getElem (by omega), List.getElem_set_self, List.take_set_of_le (Nat.le_refl i), h3]
theorem toI_same (l : List Int) (hl : l.length ≤ 1048576) : ∃ K, ∀ k, K ≤ k → laws_toInt64S.f k l = some l := by
  refine ⟨l.length + 2, fun k hk => ?_⟩
  unfold laws_toInt64S.f
  rw [if_pos (by omega), if_pos (by omega)]
  exact toI_loop l (by omega) l.length k 0 _ (by omega) (by simp) (by simp) (by omega)
theorem eqI_loop (l : List Int) (hl : l.length ≤ 1000000000) (d : Nat) : ∀ (k i : Nat), i + d = l.length → d < k → laws_eqInt64S.l0 k l l (i : Int) = some true := by
  induction d with
  | zero =>
    intro k i h1 hk
    obtain ⟨k, rfl⟩ : ∃ m, k = m + 1 := ⟨k - 1, by omega⟩
    simp only [laws_eqInt64S.l0]
    rw [if_neg (by omega)]
  | succ d ih =>
    intro k i h1 hk
    obtain ⟨k, rfl⟩ : ∃ m, k = m + 1 := ⟨k - 1, by omega⟩
    simp only [laws_eqInt64S.l0]
    rw [if_pos (by omega), if_pos (by omega), if_pos (by omega), if_pos trivial, wn (by omega)]
    exact ih k (i + 1) (by omega) (by omega)
theorem eqI_same (l : List Int) (hl : l.length ≤ 2000000) : ∃ K, ∀ k, K ≤ k → laws_eqInt64S.f k l l = some true := by
  refine ⟨l.length + 2, fun k hk => ?_⟩
  unfold laws_eqInt64S.f
  rw [if_pos rfl]
  exact eqI_loop l (by omega) l.length k 0 (by omega) (by omega)
/-- n, n + 1, .. : d of them -/
def up (n : Int) : Nat → List Int
  | 0 => []
  | d + 1 => n :: up (n + 1) d
theorem up_len : ∀ (d : Nat) (n : Int), (up n d).length = d
  | 0, _ => rfl
  | d + 1, n => by simp [up, up_len d]
theorem mark_loop (d : Nat) : ∀ (k i : Nat) (l : List Int) (n : Int), i + d = l.length → l.length ≤ 1000000000 → 0 ≤ n → n + d ≤ 1000000000000 → d < k → laws_markInt64S.l0 k l n (i : Int) = some (n + d, l.take i ++ up n d) := by
  induction d with
  | zero =>
    intro k i l n h1 h2 h3 h4 hk
    obtain ⟨k, rfl⟩ : ∃ m, k = m + 1 := ⟨k - 1, by omega⟩
    simp only [laws_markInt64S.l0]
    rw [if_neg (by omega), List.take_of_length_le (by omega)]
    simp [up]
  | succ d ih =>
    intro k i l n h1 h2 h3 h4 hk
    obtain ⟨k, rfl⟩ : ∃ m, k = m + 1 := ⟨k - 1, by omega⟩
    simp only [laws_markInt64S.l0]
    have hw : wrap64 (n + 1) = n + 1 := w64 (by omega) (by omega)
    rw [if_pos (by omega), if_pos (by omega), wn (by omega), Int.toNat_natCast, hw]
    rw [ih k (i + 1) _ (n + 1) (by simp; omega) (by simpa using h2) (by omega) (by omega) (by omega)]
    rw [List.take_succ_eq_append_getElem (by simp; omega), List.getElem_set_self, List.take_set_of_le (Nat.le_refl i)]
    simp only [up, List.append_assoc, List.cons_append, List.nil_append]
    congr 2
    omega
theorem mark_up (l : List Int) (hl : l.length ≤ 2000000) (n : Int) (h0 : 0 ≤ n) (h1 : n ≤ 100000000) : ∃ K, ∀ k, K ≤ k → laws_markInt64S.f k l n = some (n + l.length, up n l.length) := by
  refine ⟨l.length + 2, fun k hk => ?_⟩
  unfold laws_markInt64S.f
  have := mark_loop l.length k 0 l n (by omega) (by omega) h0 (by omega) (by omega)
  simpa using this
theorem up_get : ∀ (d i : Nat) (n : Int) (h : i < d), (up n d)[i]'(by rw [up_len]; exact h) = n + i
  | d + 1, 0, n, _ => by simp [up]
  | d + 1, i + 1, n, h => by simp only [up, List.getElem_cons_succ]; rw [up_get d i (n + 1) (by omega)]; omega
theorem held_loop (m : Nat) (n0 : Int) (hm : m ≤ 1000000000) (h0 : 0 ≤ n0) (hb : n0 ≤ 1000000000) (d : Nat) : ∀ (k i : Nat), i + d = m → d < k → laws_heldInt64S.l0 k (up n0 m) (n0 + i) (i : Int) = some (n0 + m) := by
  induction d with
  | zero =>
    intro k i h1 hk
    obtain ⟨k, rfl⟩ : ∃ m, k = m + 1 := ⟨k - 1, by omega⟩
    simp only [laws_heldInt64S.l0]
    rw [if_neg (by rw [up_len]; omega)]
    congr 2; omega
  | succ d ih =>
    intro k i h1 hk
    obtain ⟨k, rfl⟩ : ∃ m, k = m + 1 := ⟨k - 1, by omega⟩
    simp only [laws_heldInt64S.l0]
    have hw : wrap64 (n0 + i + 1) = n0 + ((i + 1 : Nat) : Int) := by rw [w64 (by omega) (by omega)]; omega
    rw [if_pos (by rw [up_len]; omega), if_pos (by omega), rd_lt _ _ (by rw [up_len]; omega), up_get _ _ _ (by omega), if_pos rfl, wn (by omega), hw]
    exact ih k (i + 1) (by omega) (by omega)
theorem held_up (m : Nat) (hm : m ≤ 2000000) (n : Int) (h0 : 0 ≤ n) (h1 : n ≤ 100000000) : ∃ K, ∀ k, K ≤ k → laws_heldInt64S.f k (up n m) n = some (n + m) := by
  refine ⟨m + 2, fun k hk => ?_⟩
  unfold laws_heldInt64S.f
  have := held_loop m n (by omega) h0 (by omega) m k 0 (by omega) (by omega)
  simpa using this
end Go.Proofs.Ytfbehafhiialcaa.H
namespace Go.Proofs.Ytfbehafhiialcaa.Num
open Go.RowKit
def cg (p a b : Int) : Prop := p ∣ a - b
theorem cg.symm {p a b : Int} : cg p a b → cg p b a := fun ⟨k, h⟩ => ⟨-k, by rw [Int.mul_neg, ← h]; omega⟩
theorem cg.trans {p a b c : Int} : cg p a b → cg p b c → cg p a c := fun ⟨k, h⟩ ⟨m, h'⟩ => ⟨k + m, by rw [Int.mul_add, ← h, ← h']; omega⟩
end Go.Proofs.Ytfbehafhiialcaa.Num
namespace Go.Proofs.Ytfbehafhiialcaa.H
open Go.RowKit Go.Proofs.YtfbehafhiialcaaW.PrintWords Go.Proofs.YtfbehafhiialcaaW.PrintLast Go.Proofs.YtfbehafhiialcaaW.PrintMore Go.Proofs.Ytfbehafhiialcaa.Num
theorem spec_prime (p : Int) : Ev (fun k => spec_l01Prime.f k p) (primeB p) := by
  refine ⟨200, fun k hk => ?_⟩
  unfold spec_l01Prime.f spec_l01In.f
  by_cases h1 : p ≥ 2
  · by_cases h2 : p ≤ 10007
    · obtain ⟨b, hb, hiff⟩ := prime_loop spec_l01Prime.l0 p h1 h2 (fun k i => rfl) 102 k 2 (by omega) (by omega) (by omega) (by omega)
      simp only [if_pos h1, Option.bind_some, decide_eq_true h2, if_true, hb, primeB_loop h1 h2 hiff]
    · simp [if_pos h1, decide_eq_false h2, primeB_hi h2]
  · simp [if_neg h1, primeB_lo h1]
theorem impl_prime (p : Int) : Ev (fun k => impl_IsPrime.f k p) (primeB p) := by
  refine ⟨200, fun k hk => ?_⟩
  unfold impl_IsPrime.f impl_within.f
  by_cases h1 : 2 ≤ p
  · by_cases h2 : p ≤ 10007
    · obtain ⟨b, hb, hiff⟩ := prime_loop impl_IsPrime.l0 p h1 h2 (fun k i => rfl) 102 k 2 (by omega) (by omega) (by omega) (by omega)
      simp only [if_pos h1, Option.bind_some, decide_eq_true h2, if_true, hb, primeB_loop h1 h2 hiff]
    · simp [if_pos h1, decide_eq_false h2, primeB_hi h2]
  · simp [if_neg h1, primeB_lo h1]
theorem hasB_iff {p x : Int} : hasB p x = true ↔ 0 ≤ x ∧ x < p := by unfold hasB; simp
theorem poly_loop (p : Int) (l : List Int) (hl : l.length ≤ 1000000000) (d : Nat) : ∀ (k i : Nat), i + d = l.length → d < k → spec_l01Poly.l0 k p l (i : Int) = some ((l.drop i).all (hasB p) && (decide (l.length ≤ 25) && (decide (l.length = 0) || decide (rd l ((l.length : Int) - 1) ≠ 0)))) := by
  induction d with
  | zero =>
    intro k i h1 hk
    obtain ⟨k, rfl⟩ : ∃ m, k = m + 1 := ⟨k - 1, by omega⟩
    simp only [spec_l01Poly.l0]
    rw [if_neg (by omega), List.drop_of_length_le (by omega)]
    by_cases h25 : l.length ≤ 25
    · rw [if_pos (by omega)]
      by_cases h0 : l.length = 0
      · rw [if_pos (by omega)]; simp [h0]
      · have hw : wrap64 ((l.length : Int) - 1) = (l.length : Int) - 1 := w64 (by omega) (by omega)
        rw [if_neg (by omega), hw, if_pos (by omega), if_pos (by omega)]
        simp [h25, h0, bne]
        rfl
    · rw [if_neg (by omega)]; simp [h25]
  | succ d ih =>
    intro k i h1 hk
    obtain ⟨k, rfl⟩ : ∃ m, k = m + 1 := ⟨k - 1, by omega⟩
    simp only [spec_l01Poly.l0]
    rw [if_pos (by omega), if_pos (by omega), rd_lt l i (by omega), wn (by omega), ih k (i + 1) (by omega) (by omega), List.drop_eq_getElem_cons (show i < l.length by omega), List.all_cons]
    by_cases h0 : l[i] < 0
    · rw [if_pos h0]; simp [hasB]; omega
    · rw [if_neg h0]
      by_cases hp : l[i] ≥ p
      · rw [if_pos hp]; simp [hasB]; omega
      · rw [if_neg hp]
        have : hasB p l[i] = true := hasB_iff.2 (by omega)
        rw [this, Bool.true_and]
theorem spec_poly (p : Int) (l : List Int) (hl : l.length ≤ 1000000000) : Ev (fun k => spec_l01Poly.f k p l) (polyB p l) := by
  refine ⟨l.length + 2, fun k hk => ?_⟩
  unfold spec_l01Poly.f
  have h := poly_loop p l hl l.length k 0 (by omega) (by omega)
  simp only [Int.natCast_zero, List.drop_zero] at h
  show spec_l01Poly.l0 k p l 0 = _
  rw [h]
  unfold polyB
  cases decide (l.length ≤ 25) <;> simp [Bool.and_comm]
/-- what it says of a list that it is a polynomial -/
structure Po (p : Int) (l : List Int) : Prop where
  len : l.length ≤ 25
  el : ∀ x ∈ l, 0 ≤ x ∧ x < p
  last : l.length = 0 ∨ rd l ((l.length : Int) - 1) ≠ 0
theorem polyB_iff {p : Int} {l : List Int} : polyB p l = true ↔ Po p l := by
  unfold polyB
  simp only [Bool.and_eq_true, Bool.or_eq_true, decide_eq_true_eq, List.all_eq_true, hasB_iff]
  exact ⟨fun ⟨⟨a, b⟩, c⟩ => ⟨a, b, c⟩, fun h => ⟨⟨h.len, h.el⟩, h.last⟩⟩
/-- the code of a prime and polynomials -/
noncomputable def codeL (p : Int) (b : Bool) (ls : List (List Int)) : Int := if ls.all (polyB p) = true then (if (primeB p && b) = true then 0 else 2) else 1
theorem code_loop (p : Int) (ls : List (List Int)) (hl : ls.length ≤ 1000000000) (hls : ∀ l ∈ ls, l.length ≤ 1000000000) (K : Nat) (hK : ∀ l ∈ ls, ∀ k, K ≤ k → spec_l01Poly.f k p l = some (polyB p l)) (hP : ∀ k, K ≤ k → spec_l01Prime.f k p = some (primeB p)) (d : Nat) :
    ∀ (k i : Nat), i + d = ls.length → K + d < k → spec_l01Code.l0 k p ls (i : Int) = some (codeL p true (ls.drop i)) := by
  induction d with
  | zero =>
    intro k i h1 hk
    obtain ⟨k, rfl⟩ : ∃ m, k = m + 1 := ⟨k - 1, by omega⟩
    simp only [spec_l01Code.l0]
    rw [if_neg (by omega), List.drop_of_length_le (by omega), hP k (by omega)]
    simp [codeL]
    cases primeB p <;> simp
  | succ d ih =>
    intro k i h1 hk
    obtain ⟨k, rfl⟩ : ∃ m, k = m + 1 := ⟨k - 1, by omega⟩
    simp only [spec_l01Code.l0]
    have hrd : rd_L1 ls (i : Int) = ls[i]'(by omega) := by
      simp [rd_L1, List.getD_eq_getElem?_getD, show i < ls.length by omega]
    rw [if_pos (by omega), if_pos (by omega), hrd, hK _ (List.getElem_mem _) k (by omega), Option.bind_some, wn (by omega), ih k (i + 1) (by omega) (by omega), List.drop_eq_getElem_cons (show i < ls.length by omega)]
    cases hq : polyB p (ls[i]'(by omega)) with
    | true => simp only [codeL, List.all_cons, hq, Bool.true_and, if_true]
    | false => simp [codeL, List.all_cons, hq, -List.getElem_cons_drop]
theorem spec_code (p : Int) (ls : List (List Int)) (hl : ls.length ≤ 1000000) (hls : ∀ l ∈ ls, l.length ≤ 1000000000) : Ev (fun k => spec_l01Code.f k p ls) (codeL p true ls) := by
  obtain ⟨K1, h1⟩ : ∃ K, ∀ l ∈ ls, ∀ k, K ≤ k → spec_l01Poly.f k p l = some (polyB p l) := by
    clear hl
    induction ls with
    | nil => exact ⟨0, fun l hl => by simp at hl⟩
    | cons a ls ih =>
      obtain ⟨K, h⟩ := ih (fun l hl => hls l (by simp [hl]))
      obtain ⟨K', h'⟩ := spec_poly p a (hls a (by simp))
      refine ⟨K + K', fun l hl k hk => ?_⟩
      rcases List.mem_cons.1 hl with rfl | hl
      · exact h' k (by omega)
      · exact h l hl k (by omega)
  obtain ⟨K2, h2⟩ := spec_prime p
  refine ⟨K1 + K2 + ls.length + 2, fun k hk => ?_⟩
  unfold spec_l01Code.f
  exact code_loop p ls (by omega) hls (K1 + K2) (fun l hl k hk => h1 l hl k (by omega)) (fun k hk => h2 k (by omega)) ls.length k 0 (by omega) (by omega)
theorem impl_code1 (p : Int) (b : Bool) (l : List Int) : Ev (fun k => impl_polyCode_1.f k p b l) (codeL p b [l]) := by
  obtain ⟨K, h⟩ := impl_prime p
  refine ⟨K, fun k hk => ?_⟩
  have e := h k hk
  simp only at e
  simp only [impl_polyCode_1.f, codeL, e, Option.bind_some, List.all_cons, List.all_nil, Bool.and_true]
  split <;> rfl
theorem codeL_0 {p : Int} {b : Bool} {ls : List (List Int)} (h : codeL p b ls = 0) : IsP p ∧ b = true ∧ ∀ l ∈ ls, Po p l := by
  unfold codeL at h
  split at h
  · split at h
    · rename_i h1 h2
      simp only [Bool.and_eq_true] at h2
      exact ⟨primeB_iff.1 h2.1, h2.2, fun l hl => polyB_iff.1 (List.all_eq_true.1 h1 l hl)⟩
    · cases h
  · cases h
def InR (p : Int) (l : List Int) : Prop := ∀ x ∈ l, 0 ≤ x ∧ x < p
theorem InR.set {p : Int} {l : List Int} (h : InR p l) (i : Nat) {x : Int} (hx : 0 ≤ x ∧ x < p) : InR p (l.set i x) := by
  intro y hy
  rcases List.mem_or_eq_of_mem_set hy with h' | h'
  · exact h y h'
  · rw [h']; exact hx
theorem InR.take {p : Int} {l : List Int} (h : InR p l) (n : Nat) : InR p (l.take n) := fun x hx => h x (List.mem_of_mem_take hx)
theorem InR.drop {p : Int} {l : List Int} (h : InR p l) (n : Nat) : InR p (l.drop n) := fun x hx => h x (List.mem_of_mem_drop hx)
/-- the numbers of a list, 0 behind its end -/
def co (l : List Int) (i : Nat) : Int := l.getD i 0
theorem co_set (l : List Int) (i j : Nat) (x : Int) (h : i < l.length) : co (l.set i x) j = if j = i then x else co l j := by
  unfold co
  simp only [List.getD_eq_getElem?_getD]
  by_cases e : j = i
  · subst e; rw [List.getElem?_set_self h, if_pos rfl]; rfl
  · rw [List.getElem?_set_ne (Ne.symm e), if_neg e]
/-- the code with the test for 0 behind it -/
def fillL (c : Int) (ls : List (List Int)) : Int := if c = 0 then (if ls.all (fun l => decide (0 < l.length)) = true then 0 else 5) else c
theorem fill_loop (ls : List (List Int)) (hl : ls.length ≤ 1000000) : ∀ (d i : Nat), i + d = ls.length → Ev (fun k => spec_l06Code.l0 k ls (i : Int)) (if (ls.drop i).all (fun l => decide (0 < l.length)) = true then 0 else 5) := by
  intro d
  induction d with
  | zero => intro i h; refine Ev.succ ?_; simp (disch := omega) only [spec_l06Code.l0, if_neg, List.drop_of_length_le]; exact Ev.now _
  | succ d ih =>
    intro i h
    have hi := ih (i + 1) (by omega)
    have hrd : rd_L1 ls (i : Int) = ls[i]'(by omega) := by simp [rd_L1, List.getD_eq_getElem?_getD, show i < ls.length by omega]
    refine Ev.succ ?_
    rw [List.drop_eq_getElem_cons (show i < ls.length by omega)]
    simp (disch := omega) only [spec_l06Code.l0, if_pos, hrd, wp1, List.all_cons]
    by_cases h0 : (ls[i]'(by omega)).length = 0
    · have h1 : (((ls[i]'(by omega)).length : Nat) : Int) = 0 := by omega
      simp only [h1, if_true, h0, Nat.lt_irrefl, decide_false, Bool.false_and, Bool.false_eq_true, if_false]
      exact Ev.now _
    · have h1 : ¬ (((ls[i]'(by omega)).length : Nat) : Int) = 0 := by omega
      simp only [if_neg h1, decide_eq_true (show 0 < (ls[i]'(by omega)).length by omega), Bool.true_and]
      exact hi
theorem spec_code6 (p : Int) (ls : List (List Int)) (hl : ls.length ≤ 1000000) (hls : ∀ l ∈ ls, l.length ≤ 1000000000) : Ev (fun k => spec_l06Code.f k p ls) (fillL (codeL p true ls) ls) := by
  have h1 := spec_code p ls hl hls
  have h2 := fill_loop ls hl ls.length 0 (by omega)
  simp only [spec_l06Code.f, fillL]
  refine Ev.bind h1 ?_
  by_cases h : codeL p true ls = 0
  · simp only [h, if_true]; exact h2
  · simp only [if_neg h]; exact Ev.now _
theorem impl_fill1 (p : Int) (b : Bool) (l : List Int) : Ev (fun k => impl_filledCode_1.f k p b l) (fillL (codeL p b [l]) [l]) := by
  simp only [impl_filledCode_1.f]
  refine Ev.bind (impl_code1 p b l) ?_
  simp only [fillL, List.all_cons, List.all_nil, Bool.and_true]
  exact Ev.now _
/-- what the code 0 tells -/
theorem fillL_0 {p : Int} {b : Bool} {ls : List (List Int)} (h : fillL (codeL p b ls) ls = 0) : IsP p ∧ b = true ∧ ∀ l ∈ ls, Po p l ∧ 0 < l.length := by
  unfold fillL at h
  split at h
  · rename_i hc
    split at h
    · rename_i ha
      obtain ⟨h1, h2, h3⟩ := codeL_0 hc
      exact ⟨h1, h2, fun l hl => ⟨h3 l hl, of_decide_eq_true (List.all_eq_true.1 ha l hl)⟩⟩
    · cases h
  · rename_i hc; exact absurd h hc
theorem spec_back (l : List Int) (hl : l.length ≤ 1000000000) : Ev (fun k => spec_l02Back.f k l) l.reverse := by
  have loop : ∀ n, n ≤ l.length → Ev (fun k => spec_l02Back.l0 k l (l.drop n).reverse ((n : Int) - 1)) l.reverse := by
    intro n
    induction n with
    | zero => intro _; refine Ev.succ ?_; simp (disch := omega) only [spec_l02Back.l0, if_neg, List.drop_zero]; exact Ev.now _
    | succ n ih =>
      intro hn
      have hi := ih (by omega)
      rw [List.drop_eq_getElem_cons (show n < l.length by omega), List.reverse_cons] at hi
      refine Ev.succ ?_
      have h1 : (l.drop (n + 1)).reverse.length < 17592186044416 := by rw [List.length_reverse, List.length_drop]; omega
      simp (disch := omega) only [spec_l02Back.l0, ws1, if_pos, wm1, if_pos h1, rd_lt l n (show n < l.length by omega)]
      exact hi
  have h := loop l.length (Nat.le_refl _)
  rw [List.drop_length] at h
  simp only [spec_l02Back.f, wm1 (show l.length ≤ 1000000000000 by omega)]
  exact h
theorem co_ext {l l' : List Int} (hl : l.length = l'.length) (he : ∀ i, i < l.length → co l i = co l' i) : l = l' :=
  List.ext_getElem hl fun i a b => by
    have := he i a
    unfold co at this
    rwa [List.getD_eq_getElem?_getD, List.getD_eq_getElem?_getD, List.getElem?_eq_getElem a, List.getElem?_eq_getElem b] at this
theorem co_reverse (l : List Int) (i : Nat) (h : i < l.length) : co l.reverse i = co l (l.length - 1 - i) := by
  unfold co
  rw [List.getD_eq_getElem?_getD, List.getD_eq_getElem?_getD, List.getElem?_reverse h]
theorem impl_reverse (l : List Int) (hl : l.length ≤ 1000000) : Ev (fun k => slices_Reverse_int64_int64.f k l) l.reverse := by
  have loop : ∀ (d i : Nat) (xs : List Int), xs.length = l.length → i + d = l.length → (∀ t, t < l.length → co xs t = if t < i ∨ l.length - i ≤ t then co l (l.length - 1 - t) else co l t) →
      Ev (fun k => slices_Reverse_int64_int64.l0 k xs (i : Int) ((l.length : Int) - 1 - i)) l.reverse := by
    intro d
    induction d with
    | zero =>
      intro i xs h1 h2 h3
      refine Ev.succ ?_
      simp (disch := omega) only [slices_Reverse_int64_int64.l0, if_neg]
      refine Ev_to (Ev.now _) (co_ext (by simpa using h1) fun t ht => ?_)
      rw [h3 t (by omega), co_reverse l t (by omega), if_pos (by omega)]
    | succ d ih =>
      intro i xs h1 h2 h3
      refine Ev.succ ?_
      by_cases hlt : (i : Int) < (l.length : Int) - 1 - i
      · have hj : (l.length : Int) - 1 - i = ((l.length - 1 - i : Nat) : Int) := by omega
        have hi := ih (i + 1) ((xs.set i (xs.getD (l.length - 1 - i) 0)).set (l.length - 1 - i) (xs.getD i 0)) (by simpa using h1) (by omega) (fun t ht => by
          rw [co_set _ _ _ _ (by simpa using by omega)]
          by_cases e1 : t = l.length - 1 - i
          · rw [if_pos e1, if_pos (by omega)]
            have := h3 i (by omega)
            unfold co at this
            rw [this, if_neg (by omega), e1]
            show co l i = _
            rw [show l.length - 1 - (l.length - 1 - i) = i by omega]
          · rw [if_neg e1, co_set _ _ _ _ (by omega)]
            by_cases e2 : t = i
            · rw [if_pos e2, if_pos (by omega)]
              have := h3 (l.length - 1 - i) (by omega)
              unfold co at this
              rw [this, if_neg (by omega), e2]
              rfl
            · rw [if_neg e2, h3 t ht]
              by_cases e3 : t < i ∨ l.length - i ≤ t
              · rw [if_pos e3, if_pos (by omega)]
              · rw [if_neg e3, if_neg (by omega)])
        rw [hj] at hlt ⊢
        simp (disch := omega) only [slices_Reverse_int64_int64.l0, if_pos hlt, if_pos, rd_n, Int.toNat_natCast, wp1, wm1]
        rw [show ((l.length - 1 - i : Nat) : Int) - 1 = (l.length : Int) - 1 - ((i + 1 : Nat) : Int) by omega]
        exact hi
      · simp only [slices_Reverse_int64_int64.l0, if_neg hlt]
        refine Ev_to (Ev.now _) (co_ext (by simpa using h1) fun t ht => ?_)
        rw [h3 t (by omega), co_reverse l t (by omega)]
        by_cases e3 : t < i ∨ l.length - i ≤ t
        · rw [if_pos e3]
        · rw [if_neg e3, show l.length - 1 - t = t by omega]
  have h := loop l.length 0 l rfl (by omega) (fun t ht => by rw [if_neg (by omega)])
  simp only [slices_Reverse_int64_int64.f, wm1 (show l.length ≤ 1000000000000 by omega)]
  simpa using h
theorem clone_some (l : List Int) (h : l.length < 17592186044416) : slices_Clone_int64_int64.f l = some l := by
  simp [slices_Clone_int64_int64.f, h]
theorem impl_reversed_ (l : List Int) (hl : l.length ≤ 1000000) : Ev (fun k => impl_reversed.f k l) l.reverse := by
  simp only [impl_reversed.f, clone_some l (by omega), Option.bind_some]
  exact Ev.bind (impl_reverse l hl) (Ev.now _)
end Go.Proofs.Ytfbehafhiialcaa.H
