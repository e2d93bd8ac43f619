/- Plain laws that the claim of FnExactMomentsOfSteps reaches: numbers modulo a prime, lists, and what the printed functions answer. -/
import Derived.RowKit
import Derived.Test.YtepigphelclpcaaWWords
import Derived.Test.YtepigphelclpcaaWMore
import Derived.Test.YtepigphelclpcaaMab1
import Derived.Test.YtepigphelclpcaaMb4
import Derived.Test.YtepigphelclpcaaMb1
import Derived.Test.YtepigphelclpcaaMb2
import Derived.Test.YtepigphelclpcaaMab2
import Derived.Test.YtepigphelclpcaaMb5
import Derived.Test.YtepigphelclpcaaMb3
import Derived.Test.YtepigphelclpcaaMb8
import Derived.Test.YtepigphelclpcaaMab3
import Derived.Test.YtepigphelclpcaaMb7
import Derived.Test.YtepigphelclpcaaMb6
set_option linter.unusedVariables false
set_option linter.unusedSimpArgs false
namespace Go.Proofs.Ytepigphelclpcaa.Num
open Go.RowKit
theorem w64 {x : Int} (h1 : -9223372036854775808 ≤ x) (h2 : x ≤ 9223372036854775807) : wrap64 x = x := by
  unfold wrap64; omega
theorem tmod_nn {a b : Int} (h : 0 ≤ a) : Int.tmod a b = a % b := Int.tmod_eq_emod_of_nonneg h
theorem tmod_lt' {x p : Int} (hp : 0 < p) : Int.tmod x p < p ∧ -p < Int.tmod x p := by
  constructor
  · exact Int.tmod_lt_of_pos x hp
  · have h := Int.tmod_lt_of_pos (-x) hp
    rw [Int.neg_tmod] at h
    omega
/-- the program's way to a number of the field -/
theorem md {x p : Int} (hp : 0 < p) (hp2 : p ≤ 1000000000) : Int.tmod (wrap64 (Int.tmod x p + p)) p = x % p := by
  obtain ⟨h1, h2⟩ := tmod_lt' (x := x) hp
  rw [w64 (by omega) (by omega), tmod_nn (by omega), Int.tmod_def]
  have : x - p * x.tdiv p + p = x + p * (1 - x.tdiv p) := by
    rw [Int.mul_sub]; omega
  rw [this, Int.add_mul_emod_self_left]
theorem emod_bd {x p : Int} (hp : 0 < p) : 0 ≤ x % p ∧ x % p < p := ⟨Int.emod_nonneg _ (by omega), Int.emod_lt_of_pos _ hp⟩
theorem mul_bd {x y a b : Int} (hx0 : 0 ≤ x) (hx : x ≤ a) (hy0 : 0 ≤ y) (hy : y ≤ b) : 0 ≤ x * y ∧ x * y ≤ a * b :=
  ⟨Int.mul_nonneg hx0 hy0, Int.mul_le_mul hx hy hy0 (by omega)⟩
theorem em_l (a b p : Int) : a % p * b % p = a * b % p := by rw [Int.mul_emod, Int.emod_emod, ← Int.mul_emod]
theorem em_r (a b p : Int) : a * (b % p) % p = a * b % p := by rw [Int.mul_emod, Int.emod_emod, ← Int.mul_emod]
theorem ea_l (a b p : Int) : (a % p + b) % p = (a + b) % p := Int.emod_add_emod _ _ _
theorem ea_r (a b p : Int) : (a + b % p) % p = (a + b) % p := Int.add_emod_emod _ _ _
theorem es_l (a b p : Int) : (a % p - b) % p = (a - b) % p := by rw [Int.sub_eq_add_neg, ea_l, ← Int.sub_eq_add_neg]
theorem en_ (b p : Int) : (-(b % p)) % p = (-b) % p := by
  have h : -(b % p) = -b + p * (b / p) := by have := Int.mul_ediv_add_emod b p; omega
  rw [h, Int.add_mul_emod_self_left]
theorem es_r (a b p : Int) : (a - b % p) % p = (a - b) % p := by
  rw [Int.sub_eq_add_neg, ← ea_r, en_, ea_r, ← Int.sub_eq_add_neg]
/-- what trial division tells -/
def Pr (p : Nat) : Prop := 2 ≤ p ∧ ∀ d, d ∣ p → d = 1 ∨ d = p
theorem Pr.of_trial {p : Nat} (h2 : 2 ≤ p) (h : ∀ d, 2 ≤ d → d * d ≤ p → p % d ≠ 0) : Pr p := by
  refine ⟨h2, fun d hd => ?_⟩
  obtain ⟨e, he⟩ := hd
  have hd0 : 0 < d := by rcases Nat.eq_zero_or_pos d with h0 | h0; (subst h0; simp at he; omega); exact h0
  have he0 : 0 < e := by rcases Nat.eq_zero_or_pos e with h0 | h0; (subst h0; simp at he; omega); exact h0
  rcases Nat.lt_or_ge d 2 with h1 | h1
  · left; omega
  rcases Nat.lt_or_ge e 2 with h3 | h3
  · right
    have : e = 1 := by omega
    subst this; simpa using he.symm
  · exfalso
    rcases Nat.le_total d e with hle | hle
    · refine h d h1 ?_ ?_
      · rw [he]; exact Nat.mul_le_mul_left d hle
      · rw [he]; exact Nat.mul_mod_right d e
    · refine h e h3 ?_ ?_
      · rw [he]; exact Nat.mul_le_mul_right e hle
      · rw [he]; exact Nat.mul_mod_left d e
theorem pow_emod (p x : Int) (n : Nat) : (x % p) ^ n % p = x ^ n % p := by
  induction n with
  | zero => simp
  | succ n ih => rw [Int.pow_succ, Int.pow_succ, Int.mul_emod, ih, Int.emod_emod_of_dvd _ (Int.dvd_refl p), ← Int.mul_emod]
theorem pw_step {p : Int} (out x : Int) (n : Nat) : out * (x * x % p) ^ n % p = out * x ^ (2 * n) % p := by
  rw [Int.mul_emod, pow_emod, ← Int.mul_emod, Int.pow_mul, show x ^ 2 = x * x by rw [Int.pow_succ, Int.pow_succ, Int.pow_zero, Int.one_mul]]
/-- the loop that squares and multiplies, in the program's spelling (no last reduction) -/
theorem pow_loop (l : Nat → Int → Int → Int → Int → Option Int) (fin : Int → Int → Option Int) (m : Int → Int) (p : Int) (hp : 2 ≤ p) (hp2 : p ≤ 1000000) (hm : ∀ y, 0 ≤ y → m y = y % p)
    (hl : ∀ k e out x, l (k + 1) p e out x = if e > 0 then (if Int.tmod e 2 = 1 then l k p (wrap64 (Int.tdiv e 2)) (m (wrap64 (out * x))) (m (wrap64 (x * x))) else l k p (wrap64 (Int.tdiv e 2)) out (m (wrap64 (x * x)))) else fin p out)
    (d : Nat) : ∀ (k : Nat) (e out x : Int), e < d → d < k → 0 ≤ e → e ≤ 1000000000 → 0 ≤ out → out < p → 0 ≤ x → x < p → l k p e out x = fin p (out * x ^ e.toNat % p) := by
  induction d with
  | zero => intro k e out x h; omega
  | succ d ih =>
    intro k e out x he hk h0 h9 o0 o1 x0 x1
    obtain ⟨k, rfl⟩ : ∃ m, k = m + 1 := ⟨k - 1, by omega⟩
    rw [hl]
    by_cases h : e > 0
    · rw [if_pos h]
      have hb1 := mul_bd (a := 1000000) (b := 1000000) o0 (by omega) x0 (by omega)
      have hb2 := mul_bd (a := 1000000) (b := 1000000) x0 (by omega) x0 (by omega)
      have e1 : Int.tdiv e 2 = e / 2 := Int.tdiv_eq_ediv_of_nonneg h0
      have e2 : Int.tmod e 2 = e % 2 := tmod_nn h0
      have ew : wrap64 (e / 2) = e / 2 := w64 (by omega) (by omega)
      rw [e1, e2, ew, w64 (x := out * x) (by omega) (by omega), w64 (x := x * x) (by omega) (by omega), hm _ hb1.1, hm _ hb2.1]
      have b2 := emod_bd (x := x * x) (p := p) (by omega)
      have b1 := emod_bd (x := out * x) (p := p) (by omega)
      by_cases h1 : e % 2 = 1
      · rw [if_pos h1, ih k (e / 2) (out * x % p) (x * x % p) (by omega) (by omega) (by omega) (by omega) b1.1 b1.2 b2.1 b2.2, pw_step]
        have hn : e.toNat = 2 * (e / 2).toNat + 1 := by omega
        rw [hn, Int.pow_succ, em_l]
        have : out * x * x ^ (2 * (e / 2).toNat) = out * (x ^ (2 * (e / 2).toNat) * x) := by
          rw [Int.mul_assoc, Int.mul_comm x]
        rw [this]
      · rw [if_neg h1, ih k (e / 2) out (x * x % p) (by omega) (by omega) (by omega) (by omega) o0 o1 b2.1 b2.2, pw_step]
        have hn : e.toNat = 2 * (e / 2).toNat := by omega
        rw [hn]
    · rw [if_neg h]
      have hz : e.toNat = 0 := by omega
      rw [hz, Int.pow_zero, Int.mul_one, Int.emod_eq_of_lt o0 o1]
/-- is it a prime of the program's? -/
def IsP (p : Int) : Prop := 2 ≤ p ∧ p ≤ 10007 ∧ Pr p.toNat
open Classical in
/-- the same as a bool -/
noncomputable def primeB (p : Int) : Bool := decide (IsP p)
theorem primeB_iff {p : Int} : primeB p = true ↔ IsP p := by
  unfold primeB; exact @decide_eq_true_iff _ (Classical.propDecidable _)
theorem prime_loop (l : Nat → Int → Int → Option Bool) (p : Int) (hp : 2 ≤ p) (hp2 : p ≤ 10007)
    (hl : ∀ k i, l (k + 1) p i = if wrap64 (i * i) ≤ p then (if i = 0 then none else (if Int.tmod p i = 0 then some false else l k p (wrap64 (i + 1)))) else some true)
    (d : Nat) : ∀ (k : Nat) (i : Int), 2 ≤ i → i ≤ 101 → 101 - i < d → d < k →
      ∃ b, l k p i = some b ∧ (b = true ↔ ∀ j : Int, i ≤ j → j * j ≤ p → p % j ≠ 0) := by
  induction d with
  | zero => intro k i h1 h2 h3; omega
  | succ d ih =>
    intro k i h1 h2 h3 hk
    obtain ⟨k, rfl⟩ : ∃ m, k = m + 1 := ⟨k - 1, by omega⟩
    rw [hl]
    have hb := mul_bd (a := 101) (b := 101) (x := i) (y := i) (by omega) h2 (by omega) h2
    rw [w64 (by omega) (by omega), w64 (x := i + 1) (by omega) (by omega)]
    by_cases hle : i * i ≤ p
    · have hi : i ≤ 100 := by
        rcases Int.lt_or_le 100 i with h | h
        · have := Int.mul_le_mul (a := 101) (b := 101) (c := i) (d := i) (by omega) (by omega) (by omega) (by omega); omega
        · exact h
      rw [if_pos hle, if_neg (by omega), tmod_nn (by omega)]
      by_cases hd : p % i = 0
      · rw [if_pos hd]
        exact ⟨false, rfl, by simp; exact ⟨i, Int.le_refl _, hle, hd⟩⟩
      · rw [if_neg hd]
        obtain ⟨b, hb1, hb2⟩ := ih k (i + 1) (by omega) (by omega) (by omega) (by omega)
        refine ⟨b, hb1, hb2.trans ⟨fun h j hj hjj => ?_, fun h j hj hjj => h j (by omega) hjj⟩⟩
        by_cases e : j = i
        · subst e; exact hd
        · exact h j (by omega) hjj
    · rw [if_neg hle]
      refine ⟨true, rfl, by simp; intro j hj hjj; exfalso; apply hle; exact Int.le_trans (Int.mul_le_mul hj hj (by omega) (by omega)) hjj⟩
theorem trial_iff {p : Int} (hp : 2 ≤ p) : (∀ j : Int, 2 ≤ j → j * j ≤ p → p % j ≠ 0) ↔ Pr p.toNat := by
  constructor
  · intro h
    refine Pr.of_trial (by omega) fun d hd hdd h0 => ?_
    refine h d (by omega) ?_ ?_
    · have : ((d * d : Nat) : Int) ≤ p := by omega
      simpa using this
    · have : ((p.toNat % d : Nat) : Int) = 0 := by rw [h0]; rfl
      rw [Int.natCast_emod, Int.toNat_of_nonneg (by omega)] at this
      exact this
  · intro h j hj hjj h0
    obtain ⟨d, rfl⟩ : ∃ d : Nat, j = d := ⟨j.toNat, by omega⟩
    obtain ⟨n, rfl⟩ : ∃ n : Nat, p = n := ⟨p.toNat, by omega⟩
    simp only [Int.toNat_natCast] at h
    have hdv : d ∣ n := by
      apply Nat.dvd_of_mod_eq_zero
      have : ((n % d : Nat) : Int) = 0 := by rw [Int.natCast_emod]; exact h0
      omega
    have hn : d * d ≤ n := by
      have : ((d * d : Nat) : Int) ≤ n := by simpa using hjj
      omega
    rcases h.2 d hdv with e | e
    · omega
    · subst e
      have : d * 2 ≤ d * d := Nat.mul_le_mul_left d (by omega)
      omega
theorem primeB_loop {p : Int} {b : Bool} (h1 : 2 ≤ p) (h2 : p ≤ 10007) (h : b = true ↔ ∀ j : Int, 2 ≤ j → j * j ≤ p → p % j ≠ 0) : b = primeB p := by
  rw [Bool.eq_iff_iff, primeB_iff, h, trial_iff h1]
  exact ⟨fun h => ⟨h1, h2, h⟩, fun h => h.2.2⟩
theorem primeB_lo {p : Int} (h : ¬ 2 ≤ p) : primeB p = false := by
  rw [Bool.eq_false_iff]; intro e; exact h (primeB_iff.1 e).1
theorem primeB_hi {p : Int} (h : ¬ p ≤ 10007) : primeB p = false := by
  rw [Bool.eq_false_iff]; intro e; exact h (primeB_iff.1 e).2.1
end Go.Proofs.Ytepigphelclpcaa.Num
namespace Go.Proofs.Ytepigphelclpcaa.H
open Go.RowKit Go.Proofs.YtepigphelclpcaaW.PrintWords Go.Proofs.YtepigphelclpcaaW.PrintLast Go.Proofs.YtepigphelclpcaaW.PrintMore Go.Proofs.Ytepigphelclpcaa.Num
theorem Ev.succ {α : Type} {g : Nat → Option α} {r : α} (h : Ev (fun k => g (k + 1)) r) : Ev g r := by
  obtain ⟨K, h⟩ := h
  refine ⟨K + 1, fun k hk => ?_⟩
  obtain ⟨m, rfl⟩ : ∃ m, k = m + 1 := ⟨k - 1, by omega⟩
  exact h m (by omega)
theorem wp1 {i : Nat} (h : i ≤ 1000000000000) : wrap64 ((i : Int) + 1) = ((i + 1 : Nat) : Int) := by rw [w64 (by omega) (by omega)]; omega
theorem rd_n (l : List Int) (i : Nat) : rd l (i : Int) = l.getD i 0 := by simp [rd]
theorem rd_lt (l : List Int) (i : Nat) (h : i < l.length) : rd l (i : Int) = l[i] := by simp [rd, h]
theorem wn {i : Nat} (h : i ≤ 1000000000000) : wrap64 ((i : Int) + 1) = ((i + 1 : Nat) : Int) := by rw [w64 (by omega) (by omega)]; omega
theorem toI_loop (l : List Int) (hl : l.length ≤ 1000000000) (d : Nat) : ∀ (k i : Nat) (acc : List Int), i + d = l.length → acc.length = l.length → acc.take i = l.take i → d < k → laws_toInt64S.l0 k l acc (i : Int) = some l := by
  induction d with
  | zero =>
    intro k i acc h1 h2 h3 hk
    obtain ⟨k, rfl⟩ : ∃ m, k = m + 1 := ⟨k - 1, by omega⟩
    simp only [laws_toInt64S.l0]
    rw [if_neg (by omega)]
    have : acc = l := by
      have e1 : acc.take i = acc := List.take_of_length_le (by omega)
      have e2 : l.take i = l := List.take_of_length_le (by omega)
      rw [e1, e2] at h3; exact h3
    rw [this]
  | succ d ih =>
    intro k i acc h1 h2 h3 hk
    obtain ⟨k, rfl⟩ : ∃ m, k = m + 1 := ⟨k - 1, by omega⟩
    simp only [laws_toInt64S.l0]
    rw [if_pos (by omega), if_pos (by omega), if_pos (by omega), wn (by omega), rd_lt l i (by omega), Int.toNat_natCast]
    refine ih k (i + 1) _ (by omega) (by simpa using h2) ?_ (by omega)
    rw [List.take_succ_eq_append_getElem (by simp; omega), List.take_succ_eq_append_getElem (by omega), List.getElem_set_self, List.take_set_of_le (Nat.le_refl i), h3]
theorem toI_same (l : List Int) (hl : l.length ≤ 1048576) : ∃ K, ∀ k, K ≤ k → laws_toInt64S.f k l = some l := by
  refine ⟨l.length + 2, fun k hk => ?_⟩
  unfold laws_toInt64S.f
  rw [if_pos (by omega), if_pos (by omega)]
  exact toI_loop l (by omega) l.length k 0 _ (by omega) (by simp) (by simp) (by omega)
theorem eqI_loop (l : List Int) (hl : l.length ≤ 1000000000) (d : Nat) : ∀ (k i : Nat), i + d = l.length → d < k → laws_eqInt64S.l0 k l l (i : Int) = some true := by
  induction d with
  | zero =>
    intro k i h1 hk
    obtain ⟨k, rfl⟩ : ∃ m, k = m + 1 := ⟨k - 1, by omega⟩
    simp only [laws_eqInt64S.l0]
    rw [if_neg (by omega)]
  | succ d ih =>
    intro k i h1 hk
    obtain ⟨k, rfl⟩ : ∃ m, k = m + 1 := ⟨k - 1, by omega⟩
    simp only [laws_eqInt64S.l0]
    rw [if_pos (by omega), if_pos (by omega), if_pos (by omega), if_pos trivial, wn (by omega)]
    exact ih k (i + 1) (by omega) (by omega)
theorem eqI_same (l : List Int) (hl : l.length ≤ 2000000) : ∃ K, ∀ k, K ≤ k → laws_eqInt64S.f k l l = some true := by
  refine ⟨l.length + 2, fun k hk => ?_⟩
  unfold laws_eqInt64S.f
  rw [if_pos rfl]
  exact eqI_loop l (by omega) l.length k 0 (by omega) (by omega)
/-- n, n + 1, .. : d of them -/
def up (n : Int) : Nat → List Int
  | 0 => []
  | d + 1 => n :: up (n + 1) d
theorem up_len : ∀ (d : Nat) (n : Int), (up n d).length = d
  | 0, _ => rfl
  | d + 1, n => by simp [up, up_len d]
theorem mark_loop (d : Nat) : ∀ (k i : Nat) (l : List Int) (n : Int), i + d = l.length → l.length ≤ 1000000000 → 0 ≤ n → n + d ≤ 1000000000000 → d < k → laws_markInt64S.l0 k l n (i : Int) = some (n + d, l.take i ++ up n d) := by
  induction d with
  | zero =>
    intro k i l n h1 h2 h3 h4 hk
    obtain ⟨k, rfl⟩ : ∃ m, k = m + 1 := ⟨k - 1, by omega⟩
    simp only [laws_markInt64S.l0]
    rw [if_neg (by omega), List.take_of_length_le (by omega)]
    simp [up]
  | succ d ih =>
    intro k i l n h1 h2 h3 h4 hk
    obtain ⟨k, rfl⟩ : ∃ m, k = m + 1 := ⟨k - 1, by omega⟩
    simp only [laws_markInt64S.l0]
    have hw : wrap64 (n + 1) = n + 1 := w64 (by omega) (by omega)
    rw [if_pos (by omega), if_pos (by omega), wn (by omega), Int.toNat_natCast, hw]
    rw [ih k (i + 1) _ (n + 1) (by simp; omega) (by simpa using h2) (by omega) (by omega) (by omega)]
    rw [List.take_succ_eq_append_getElem (by simp; omega), List.getElem_set_self, List.take_set_of_le (Nat.le_refl i)]
    simp only [up, List.append_assoc, List.cons_append, List.nil_append]
    congr 2
    omega
theorem mark_up (l : List Int) (hl : l.length ≤ 2000000) (n : Int) (h0 : 0 ≤ n) (h1 : n ≤ 100000000) : ∃ K, ∀ k, K ≤ k → laws_markInt64S.f k l n = some (n + l.length, up n l.length) := by
  refine ⟨l.length + 2, fun k hk => ?_⟩
  unfold laws_markInt64S.f
  have := mark_loop l.length k 0 l n (by omega) (by omega) h0 (by omega) (by omega)
  simpa using this
theorem up_get : ∀ (d i : Nat) (n : Int) (h : i < d), (up n d)[i]'(by rw [up_len]; exact h) = n + i
  | d + 1, 0, n, _ => by simp [up]
  | d + 1, i + 1, n, h => by simp only [up, List.getElem_cons_succ]; rw [up_get d i (n + 1) (by omega)]; omega
theorem held_loop (m : Nat) (n0 : Int) (hm : m ≤ 1000000000) (h0 : 0 ≤ n0) (hb : n0 ≤ 1000000000) (d : Nat) : ∀ (k i : Nat), i + d = m → d < k → laws_heldInt64S.l0 k (up n0 m) (n0 + i) (i : Int) = some (n0 + m) := by
  induction d with
  | zero =>
    intro k i h1 hk
    obtain ⟨k, rfl⟩ : ∃ m, k = m + 1 := ⟨k - 1, by omega⟩
    simp only [laws_heldInt64S.l0]
    rw [if_neg (by rw [up_len]; omega)]
    congr 2; omega
  | succ d ih =>
    intro k i h1 hk
    obtain ⟨k, rfl⟩ : ∃ m, k = m + 1 := ⟨k - 1, by omega⟩
    simp only [laws_heldInt64S.l0]
    have hw : wrap64 (n0 + i + 1) = n0 + ((i + 1 : Nat) : Int) := by rw [w64 (by omega) (by omega)]; omega
    rw [if_pos (by rw [up_len]; omega), if_pos (by omega), rd_lt _ _ (by rw [up_len]; omega), up_get _ _ _ (by omega), if_pos rfl, wn (by omega), hw]
    exact ih k (i + 1) (by omega) (by omega)
theorem held_up (m : Nat) (hm : m ≤ 2000000) (n : Int) (h0 : 0 ≤ n) (h1 : n ≤ 100000000) : ∃ K, ∀ k, K ≤ k → laws_heldInt64S.f k (up n m) n = some (n + m) := by
  refine ⟨m + 2, fun k hk => ?_⟩
  unfold laws_heldInt64S.f
  have := held_loop m n (by omega) h0 (by omega) m k 0 (by omega) (by omega)
  simpa using this
end Go.Proofs.Ytepigphelclpcaa.H
namespace Go.Proofs.Ytepigphelclpcaa.Num
open Go.RowKit
def cg (p a b : Int) : Prop := p ∣ a - b
theorem cg.symm {p a b : Int} : cg p a b → cg p b a := fun ⟨k, h⟩ => ⟨-k, by rw [Int.mul_neg, ← h]; omega⟩
theorem cg.trans {p a b c : Int} : cg p a b → cg p b c → cg p a c := fun ⟨k, h⟩ ⟨m, h'⟩ => ⟨k + m, by rw [Int.mul_add, ← h, ← h']; omega⟩
end Go.Proofs.Ytepigphelclpcaa.Num
namespace Go.Proofs.Ytepigphelclpcaa.H
open Go.RowKit Go.Proofs.YtepigphelclpcaaW.PrintWords Go.Proofs.YtepigphelclpcaaW.PrintLast Go.Proofs.YtepigphelclpcaaW.PrintMore Go.Proofs.Ytepigphelclpcaa.Num
theorem spec_prime (p : Int) : Ev (fun k => spec_l01Prime.f k p) (primeB p) := by
  refine ⟨200, fun k hk => ?_⟩
  unfold spec_l01Prime.f spec_l01In.f
  by_cases h1 : p ≥ 2
  · by_cases h2 : p ≤ 10007
    · obtain ⟨b, hb, hiff⟩ := prime_loop spec_l01Prime.l0 p h1 h2 (fun k i => rfl) 102 k 2 (by omega) (by omega) (by omega) (by omega)
      simp only [if_pos h1, Option.bind_some, decide_eq_true h2, if_true, hb, primeB_loop h1 h2 hiff]
    · simp [if_pos h1, decide_eq_false h2, primeB_hi h2]
  · simp [if_neg h1, primeB_lo h1]
theorem impl_prime (p : Int) : Ev (fun k => impl_IsPrime.f k p) (primeB p) := by
  refine ⟨200, fun k hk => ?_⟩
  unfold impl_IsPrime.f impl_within.f
  by_cases h1 : 2 ≤ p
  · by_cases h2 : p ≤ 10007
    · obtain ⟨b, hb, hiff⟩ := prime_loop impl_IsPrime.l0 p h1 h2 (fun k i => rfl) 102 k 2 (by omega) (by omega) (by omega) (by omega)
      simp only [if_pos h1, Option.bind_some, decide_eq_true h2, if_true, hb, primeB_loop h1 h2 hiff]
    · simp [if_pos h1, decide_eq_false h2, primeB_hi h2]
  · simp [if_neg h1, primeB_lo h1]
theorem spec_mod {p x : Int} (hp : 0 < p) (hp2 : p ≤ 1000000000) : spec_l01Mod.f p x = some (x % p) := by
  unfold spec_l01Mod.f; rw [if_neg (by omega), md hp hp2]
theorem impl_mod {p x : Int} (hp : 0 < p) (hp2 : p ≤ 1000000000) : impl_field_mod.f p x = some (x % p) := by
  unfold impl_field_mod.f; rw [if_neg (by omega), md hp hp2]
theorem impl_mul {p x y : Int} (hp : 0 < p) (hp2 : p ≤ 1000000000) (h1 : -9223372036854775808 ≤ x * y) (h2 : x * y ≤ 9223372036854775807) : impl_field_mul.f p x y = some (x * y % p) := by
  unfold impl_field_mul.f; rw [impl_mod hp hp2, w64 h1 h2]; rfl
theorem spec_power {p x e : Int} (hp : 2 ≤ p) (hp2 : p ≤ 10007) (e0 : 0 ≤ e) (e1 : e ≤ 1000000000) : Ev (fun k => spec_l01Power.f k p x e) (x ^ e.toNat % p) := by
  refine ⟨e.toNat + 2, fun k hk => ?_⟩
  have hb := emod_bd (x := x) (p := p) (by omega)
  simp only [spec_l01Power.f, spec_mod (show 0 < p by omega) (show p ≤ 1000000000 by omega), Option.bind_some]
  rw [pow_loop spec_l01Power.l0 (fun p out => some (Int.tmod out p)) (fun y => Int.tmod y p) p hp (by omega) (fun y hy => tmod_nn hy) (fun k e out x => by
      simp only [spec_l01Power.l0, if_neg (show ¬ p = 0 by omega)]) (e.toNat + 1) k e 1 (x % p) (by omega) (by omega) e0 e1 (by omega) (by omega) hb.1 hb.2]
  rw [Int.one_mul, pow_emod, tmod_nn (emod_bd (by omega)).1, Int.emod_emod]
theorem impl_power {p x e : Int} (hp : 2 ≤ p) (hp2 : p ≤ 10007) (x0 : 0 ≤ x) (x1 : x < p) (e0 : 0 ≤ e) (e1 : e ≤ 1000000000) : Ev (fun k => impl_field_power.f k p x e) (x ^ e.toNat % p) := by
  refine ⟨e.toNat + 2, fun k hk => ?_⟩
  simp only [impl_field_power.f, impl_mod (show 0 < p by omega) (show p ≤ 1000000000 by omega), Option.bind_some]
  rw [Int.emod_eq_of_lt (a := 1) (by omega) (by omega)]
  rw [pow_loop (fun k p e out x => impl_field_power.l0 k p x e out) (fun p out => some out) (fun y => y % p) p hp (by omega) (fun y hy => rfl) (fun k e out x => by
      simp only [impl_field_power.l0, impl_field_mul.f, impl_mod (show 0 < p by omega) (show p ≤ 1000000000 by omega), Option.bind_some]) (e.toNat + 1) k e 1 x (by omega) (by omega) e0 e1 (by omega) (by omega) x0 x1]
  rw [Int.one_mul]
theorem spec_inverse {p x : Int} (hp : 2 ≤ p) (hp2 : p ≤ 10007) : Ev (fun k => spec_l01Inverse.f k p x) (x ^ (p - 2).toNat % p) := by
  obtain ⟨K, h⟩ := spec_power (x := x) (e := p - 2) hp hp2 (by omega) (by omega)
  refine ⟨K, fun k hk => ?_⟩
  have hw : wrap64 (p - 2) = p - 2 := w64 (by omega) (by omega)
  have e := h k hk
  simp only at e
  simp only [spec_l01Inverse.f, hw, e, Option.bind_some]
theorem impl_inverse {p x : Int} (hp : 2 ≤ p) (hp2 : p ≤ 10007) (x0 : 0 ≤ x) (x1 : x < p) : Ev (fun k => impl_field_inverse.f k p x) (x ^ (p - 2).toNat % p) := by
  obtain ⟨K, h⟩ := impl_power (x := x) (e := p - 2) hp hp2 x0 x1 (by omega) (by omega)
  refine ⟨K, fun k hk => ?_⟩
  have hw : wrap64 (p - 2) = p - 2 := w64 (by omega) (by omega)
  have e := h k hk
  simp only at e
  simp only [impl_field_inverse.f, hw, e, Option.bind_some]
theorem hasB_iff {p x : Int} : hasB p x = true ↔ 0 ≤ x ∧ x < p := by unfold hasB; simp
def InR (p : Int) (l : List Int) : Prop := ∀ x ∈ l, 0 ≤ x ∧ x < p
theorem InR.get {p : Int} {l : List Int} (h : InR p l) (hp : 0 < p) (i : Nat) : 0 ≤ l.getD i 0 ∧ l.getD i 0 < p := by
  rcases Nat.lt_or_ge i l.length with hi | hi
  · rw [List.getD_eq_getElem?_getD, List.getElem?_eq_getElem hi]; exact h _ (List.getElem_mem hi)
  · rw [List.getD_eq_getElem?_getD, List.getElem?_eq_none hi]; exact ⟨Int.le_refl _, hp⟩
theorem InR.set {p : Int} {l : List Int} (h : InR p l) (i : Nat) {x : Int} (hx : 0 ≤ x ∧ x < p) : InR p (l.set i x) := by
  intro y hy
  rcases List.mem_or_eq_of_mem_set hy with h' | h'
  · exact h y h'
  · rw [h']; exact hx
theorem InR.take {p : Int} {l : List Int} (h : InR p l) (n : Nat) : InR p (l.take n) := fun x hx => h x (List.mem_of_mem_take hx)
theorem InR.zeros {p : Int} (hp : 0 < p) (n : Nat) : InR p (List.replicate n 0) := fun x hx => by
  have := (List.mem_replicate.1 hx).2; subst this; exact ⟨Int.le_refl _, hp⟩
theorem InR.append {p : Int} {l l' : List Int} (h : InR p l) (h' : InR p l') : InR p (l ++ l') := fun x hx => by
  rcases List.mem_append.1 hx with hx | hx
  · exact h x hx
  · exact h' x hx
theorem InR.drop {p : Int} {l : List Int} (h : InR p l) (n : Nat) : InR p (l.drop n) := fun x hx => h x (List.mem_of_mem_drop hx)
theorem InR.nil {p : Int} : InR p [] := fun x hx => by simp at hx
theorem InR.one {p x : Int} (h : 0 ≤ x ∧ x < p) : InR p [x] := fun y hy => by rw [List.mem_singleton.1 hy]; exact h
theorem mul_bd2 {p x y : Int} (hp : p ≤ 10007) (hx : 0 ≤ x ∧ x < p) (hy : 0 ≤ y ∧ y ≤ 100000) : 0 ≤ x * y ∧ x * y ≤ 1000700000 := by
  have := mul_bd (a := 10007) (b := 100000) hx.1 (by omega) hy.1 hy.2; omega
/-- x to the p - 2 -/
def inv (p x : Int) : Int := x ^ (p - 2).toNat % p
theorem inv_bd {p : Int} (hp : 0 < p) (x : Int) : 0 ≤ inv p x ∧ inv p x < p := emod_bd hp
theorem in_any (x a b : Int) : spec_l01In.f x a b = some (decide (a ≤ x) && decide (x ≤ b)) := by
  unfold spec_l01In.f; by_cases h : x ≥ a
  · rw [if_pos h, decide_eq_true h, Bool.true_and]
  · rw [if_neg h, decide_eq_false h, Bool.false_and]
theorem in_has {p : Int} (hp : IsP p) (x : Int) : spec_l01In.f x 0 (wrap64 (p - 1)) = some (hasB p x) := by
  rw [in_any, w64 (by have := hp.1; omega) (by have := hp.2.1; omega)]; unfold hasB; congr 2; exact decide_eq_decide.2 (by omega)
theorem in_within (x a b : Int) : spec_l01In.f x a b = some (withinB x a b) := in_any x _ _
theorem _root_.Go.Proofs.Ytepigphelclpcaa.Num.IsP.p2 {p : Int} (h : IsP p) : 2 ≤ p := h.1
theorem _root_.Go.Proofs.Ytepigphelclpcaa.Num.IsP.pm {p : Int} (h : IsP p) : p ≤ 10007 := h.2.1
theorem _root_.Go.Proofs.Ytepigphelclpcaa.Num.IsP.p0 {p : Int} (h : IsP p) : 0 < p := by have := h.1; omega
theorem hor_bd {p o x c : Int} (hp2 : p ≤ 10007) (ho : 0 ≤ o ∧ o < p) (hx : 0 ≤ x ∧ x < p) (hc : 0 ≤ c ∧ c < p) : 0 ≤ o * x ∧ o * x ≤ 1000700000 ∧ 0 ≤ o * x + c ∧ o * x + c ≤ 2000000000 := by
  have := mul_bd2 hp2 ho (y := x) (by omega); omega
noncomputable def arNum (p : Int) (l : List Int) (a b : Int) : Bool := primeB p && (withinB l.length a b && l.all (hasB p))
theorem impl_numbers (p : Int) (l : List Int) (a b : Int) : Ev (fun k => impl_areNumbers.f k p l a b) (arNum p l a b) := by
  simp only [impl_areNumbers.f]
  exact Ev.bind (impl_prime p) (Ev.now _)
theorem impl_index (l : List Int) (x : Int) (hl : l.length ≤ 1000000000) : ∀ d i, i + d = l.length → ∃ r : Int, decide (r ≥ 0) = (l.drop i).any (fun y => decide (x = y)) ∧ Ev (fun k => slices_Index_int64_int64.l0 k l x (l.length : Int) (i : Int)) r := by
  intro d
  induction d with
  | zero => intro i h; exact ⟨-1, by rw [List.drop_of_length_le (by omega)]; rfl, by refine Ev.succ ?_; simp (disch := omega) only [slices_Index_int64_int64.l0, if_neg]; exact Ev.now _⟩
  | succ d ih =>
    intro i h
    have e : rd l (i : Int) = l[i]'(by omega) := rd_lt l i (by omega)
    by_cases hx : x = l[i]'(by omega)
    · refine ⟨i, ?_, ?_⟩
      · rw [List.drop_eq_getElem_cons (show i < l.length by omega), List.any_cons, decide_eq_true (show (i : Int) ≥ 0 by omega), decide_eq_true hx]; rfl
      · refine Ev.succ ?_
        simp (disch := omega) only [slices_Index_int64_int64.l0, if_pos, e, if_pos hx]; exact Ev.now _
    · obtain ⟨r, h1, h2⟩ := ih (i + 1) (by omega)
      refine ⟨r, ?_, ?_⟩
      · rw [List.drop_eq_getElem_cons (show i < l.length by omega), List.any_cons, decide_eq_false hx, Bool.false_or]; exact h1
      · refine Ev.succ ?_
        simp (disch := omega) only [slices_Index_int64_int64.l0, if_pos, e, if_neg hx, wp1]; exact h2
theorem impl_contains (l : List Int) (x : Int) (hl : l.length ≤ 1000000000) : Ev (fun k => slices_Contains_int64_int64.f k l x) (l.any (fun y => decide (x = y))) := by
  obtain ⟨r, h1, h2⟩ := impl_index l x hl l.length 0 (by omega)
  rw [List.drop_zero] at h1
  simp only [slices_Contains_int64_int64.f, slices_Index_int64_int64.f]
  refine Ev.bind h2 ?_
  rw [h1]; exact Ev.now _
theorem eqM_same (q : Int) (A : List Int) (hA : A.length ≤ 2000000) : Ev (fun k => laws_eqMoments.f k q A q A) true := by
  simp only [laws_eqMoments.f, eq_self, if_true]
  refine Ev.bind (eqI_same A hA) ?_
  simp only [eq_self, if_true]; exact Ev.now _
theorem markM_up (q : Int) (A : List Int) (hA : A.length ≤ 1000000) (n : Int) (h0 : 0 ≤ n) (h1 : n ≤ 10000000) : Ev (fun k => laws_markMoments.f k q A n) (n + A.length, up n A.length) := by
  simp only [laws_markMoments.f]
  exact Ev.bind (mark_up A (by omega) n h0 (by omega)) (Ev.now _)
theorem heldM_up (q : Int) (a : Nat) (ha : a ≤ 1000000) (n : Int) (h0 : 0 ≤ n) (h1 : n ≤ 10000000) : Ev (fun k => laws_heldMoments.f k q (up n a) n) (n + a) := by
  simp only [laws_heldMoments.f]
  refine Ev.bind (held_up a (by omega) n h0 (by omega)) ?_
  simp (disch := omega) only [if_neg]; exact Ev.now _
theorem spec_points {p : Int} (hp : IsP p) (l : List Int) (hl : l.length ≤ 1000000000) : Ev (fun k => spec_l01Points.f k p l false) (l.all (hasB p)) := by
  have loop : ∀ d i, i + d = l.length → Ev (fun k => spec_l01Points.l0 k p l false (i : Int)) ((l.drop i).all (hasB p)) := by
    intro d
    induction d with
    | zero => intro i h; refine Ev.succ ?_; simp (disch := omega) only [spec_l01Points.l0, if_neg, List.drop_of_length_le]; exact Ev.now _
    | succ d ih =>
      intro i h
      have hi := ih (i + 1) (by omega)
      refine Ev.succ ?_
      rw [List.drop_eq_getElem_cons (show i < l.length by omega), List.all_cons]
      simp (disch := omega) only [spec_l01Points.l0, if_pos, in_has hp, Option.bind_some, rd_lt l i (show i < l.length by omega)]
      cases hb : hasB p (l[i]'(by omega)) with
      | true =>
        simp only [if_true, Bool.true_and]
        refine Ev.succ ?_
        simp only [spec_l01Points.l1, ite_self]
        refine Ev.succ ?_
        simp (disch := omega) only [spec_l01Points.j2, Bool.false_eq_true, if_false, wp1]
        exact hi
      | false => simp only [Bool.false_eq_true, if_false, Bool.false_and]; exact Ev.now _
  have h := loop l.length 0 (by omega)
  simp only [spec_l01Points.f]
  exact h
/-- the inner sum: from number i on, d numbers of g times earlier ones of out are taken away -/
def sin (p : Int) (g out : List Int) (k : Nat) : Int → Nat → Nat → Int
  | acc, _, 0 => acc
  | acc, i, d + 1 => sin p g out k ((acc - g.getD i 0 * out.getD (k - i) 0) % p) (i + 1) d
def serN (p : Int) (f g out : List Int) (k : Nat) : Int := sin p g out k (if k < f.length then f.getD k 0 else 0) 1 (min k (g.length - 1)) * inv p (g.getD 0 0) % p
def serO (p : Int) (f g : List Int) : Nat → List Int
  | 0 => []
  | k + 1 => serO p f g k ++ [serN p f g (serO p f g k) k]
theorem serO_len (p : Int) (f g : List Int) : ∀ k, (serO p f g k).length = k
  | 0 => rfl
  | k + 1 => by simp [serO, serO_len p f g k]
theorem serO_inR {p : Int} (hp : 0 < p) (f g : List Int) : ∀ k, InR p (serO p f g k)
  | 0 => InR.nil
  | k + 1 => (serO_inR hp f g k).append (InR.one (emod_bd hp))
theorem acc0_bd {p : Int} (hp : 0 < p) {f : List Int} (hf : InR p f) (k : Nat) : 0 ≤ (if k < f.length then f.getD k 0 else 0) ∧ (if k < f.length then f.getD k 0 else 0) < p := by
  split
  · exact hf.get hp k
  · exact ⟨Int.le_refl _, hp⟩
theorem sin_congr {p : Int} {g out out' : List Int} {k : Nat} : ∀ d i acc, (∀ j, j < d → out.getD (k - (i + j)) 0 = out'.getD (k - (i + j)) 0) → sin p g out k acc i d = sin p g out' k acc i d
  | 0, _, _, _ => rfl
  | d + 1, i, acc, h => by
    rw [sin, sin]
    have h0 := h 0 (by omega)
    simp only [Nat.add_zero] at h0
    rw [h0]
    exact sin_congr d (i + 1) _ fun j hj => by have := h (j + 1) (by omega); rwa [show i + (j + 1) = i + 1 + j by omega] at this
theorem set_next (out : List Int) (v : Int) {m n : Nat} (h : out.length = n) (hm : 0 < m) : (out ++ List.replicate m 0).set n v = (out ++ [v]) ++ List.replicate (m - 1) 0 := by
  subst h
  obtain ⟨m, rfl⟩ : ∃ m', m = m' + 1 := ⟨m - 1, by omega⟩
  rw [List.set_append_right _ _ (Nat.le_refl _)]
  simp [List.replicate_succ]
theorem spec_series {p : Int} {f g : List Int} {N : Nat} (hp : IsP p) (rf : InR p f) (rg : InR p g) (h0 : 0 < g.length) (hN : N ≤ 1000) (hf : f.length ≤ 1000000) (hg : g.length ≤ 1000000) : Ev (fun k => spec_l05Series.f k p f g (N : Int)) (serO p f g N) := by
  have hp0 := hp.p0
  have hpm := hp.pm
  have inner : ∀ (R out : List Int) (n : Nat) (iv : Int), out.length = n → n ≤ 1000 → InR p out → (0 ≤ iv ∧ iv < p) → ∀ d i acc, i + d = min n (g.length - 1) + 1 → 1 ≤ i → (0 ≤ acc ∧ acc < p) → Ev (fun k => spec_l05Series.l0 k p f g (N : Int) (out ++ [sin p g out n acc i d * iv % p]) iv ((n + 1 : Nat) : Int)) R → Ev (fun k => spec_l05Series.l1 k p f g (N : Int) out iv (n : Int) acc (i : Int)) R := by
    intro R out n iv ho hn rO hi d
    induction d with
    | zero =>
      intro i acc h h1 ha hE
      have hb := hor_bd hp.pm ha hi ha
      refine Ev.succ ?_
      rw [sin] at hE
      by_cases hc : (i : Int) ≤ (n : Int)
      · simp (disch := omega) only [spec_l05Series.l1, if_pos hc, if_neg, if_pos, w64, tmod_nn, wp1]; exact hE
      · simp (disch := omega) only [spec_l05Series.l1, if_neg hc, if_neg, if_pos, w64, tmod_nn, wp1]; exact hE
    | succ d ih =>
      intro i acc h h1 ha hE
      have hg := rg.get hp.p0 i
      have ho' := rO.get hp.p0 (n - i)
      have hb := hor_bd hp.pm hg ho' ha
      have hw : wrap64 ((n : Int) - (i : Int)) = ((n - i : Nat) : Int) := by rw [w64 (by omega) (by omega)]; omega
      rw [sin] at hE
      refine Ev.succ ?_
      simp (disch := omega) only [spec_l05Series.l1, hw, if_pos]
      simp (disch := omega) only [rd_n, w64, spec_mod hp0, Option.bind_some, wp1]
      exact ih (i + 1) _ (by omega) (by omega) (emod_bd hp0) hE
  have loop : ∀ d n, n + d = N → Ev (fun k => spec_l05Series.l0 k p f g (N : Int) (serO p f g n) (inv p (g.getD 0 0)) (n : Int)) (serO p f g N) := by
    intro d
    induction d with
    | zero => intro n h; refine Ev.succ ?_; simp (disch := omega) only [spec_l05Series.l0, if_neg]; rw [show n = N by omega]; exact Ev.now _
    | succ d ih =>
      intro n h
      have hs := inner (serO p f g N) (serO p f g n) n (inv p (g.getD 0 0)) (serO_len p f g n) (by omega) (serO_inR hp0 f g n) (inv_bd hp0 _) (min n (g.length - 1)) 1 (if n < f.length then f.getD n 0 else 0) (by omega) (by omega) (acc0_bd hp0 rf n) (ih (n + 1) (by omega))
      refine Ev.succ ?_
      by_cases hc : n < f.length
      · simp only [if_pos hc] at hs
        simp (disch := omega) only [spec_l05Series.l0, if_pos, rd_n]
        refine Ev.succ ?_
        simp only [spec_l05Series.j1]; exact hs
      · simp only [if_neg hc] at hs
        simp (disch := omega) only [spec_l05Series.l0, if_pos, if_neg, rd_n]
        refine Ev.succ ?_
        simp only [spec_l05Series.j1]; exact hs
  simp (disch := omega) only [spec_l05Series.f, if_pos]
  exact Ev.bind (spec_inverse hp.p2 hp.pm) (loop N 0 (by omega))
theorem impl_series {p : Int} {f g : List Int} {N : Nat} (hp : IsP p) (rf : InR p f) (rg : InR p g) (h0 : 0 < g.length) (hN : N ≤ 1000) (hf : f.length ≤ 1000000) (hg : g.length ≤ 1000000) : Ev (fun k => impl_field_series.f k p f g (N : Int)) (serO p f g N) := by
  have hp0 := hp.p0
  have hpm := hp.pm
  have inner : ∀ (R out : List Int) (n : Nat) (iv : Int), out.length = N → n < N → InR p out → (0 ≤ iv ∧ iv < p) → ∀ d i acc, i + d = min n (g.length - 1) + 1 → 1 ≤ i → (0 ≤ acc ∧ acc < p) → Ev (fun k => impl_field_series.l0 k p f g (out.set n (sin p g out n acc i d * iv % p)) iv (N : Int) ((n + 1 : Nat) : Int)) R → Ev (fun k => impl_field_series.l1 k p f g out iv (n : Int) acc (i : Int) (N : Int) (n : Int)) R := by
    intro R out n iv ho hn rO hi d
    induction d with
    | zero =>
      intro i acc h h1 ha hE
      have hb := hor_bd hp.pm ha hi ha
      refine Ev.succ ?_
      rw [sin] at hE
      by_cases hc : (i : Int) ≤ (n : Int)
      · simp (disch := omega) only [impl_field_series.l1, if_pos hc, if_neg, if_pos, impl_mul hp0, Option.bind_some, wp1, Int.toNat_natCast]; exact hE
      · simp (disch := omega) only [impl_field_series.l1, if_neg hc, if_neg, if_pos, impl_mul hp0, Option.bind_some, wp1, Int.toNat_natCast]; exact hE
    | succ d ih =>
      intro i acc h h1 ha hE
      have hg := rg.get hp.p0 i
      have ho' := rO.get hp.p0 (n - i)
      have hb := hor_bd hp.pm hg ho' ha
      have hw : wrap64 ((n : Int) - (i : Int)) = ((n - i : Nat) : Int) := by rw [w64 (by omega) (by omega)]; omega
      rw [sin] at hE
      refine Ev.succ ?_
      simp (disch := omega) only [impl_field_series.l1, hw, if_pos]
      simp (disch := omega) only [rd_n, w64, impl_mod hp0, Option.bind_some, wp1]
      exact ih (i + 1) _ (by omega) (by omega) (emod_bd hp0) hE
  have loop : ∀ d n, n + d = N → Ev (fun k => impl_field_series.l0 k p f g (serO p f g n ++ List.replicate d 0) (inv p (g.getD 0 0)) (N : Int) (n : Int)) (serO p f g N) := by
    intro d
    induction d with
    | zero => intro n h; refine Ev.succ ?_; simp (disch := omega) only [impl_field_series.l0, if_neg, List.replicate_zero, List.append_nil]; rw [show n = N by omega]; exact Ev.now _
    | succ d ih =>
      intro n h
      have hl := serO_len p f g n
      have e : sin p g (serO p f g n ++ List.replicate (d + 1) 0) n (if n < f.length then f.getD n 0 else 0) 1 (min n (g.length - 1)) = sin p g (serO p f g n) n (if n < f.length then f.getD n 0 else 0) 1 (min n (g.length - 1)) :=
        sin_congr _ _ _ fun j hj => by rw [List.getD_eq_getElem?_getD, List.getD_eq_getElem?_getD, List.getElem?_append_left (by omega)]
      have hi := ih (n + 1) (by omega)
      have hs := inner (serO p f g N) (serO p f g n ++ List.replicate (d + 1) 0) n (inv p (g.getD 0 0)) (by simp [hl]; omega) (by omega) ((serO_inR hp0 f g n).append (InR.zeros hp0 _)) (inv_bd hp0 _) (min n (g.length - 1)) 1 (if n < f.length then f.getD n 0 else 0) (by omega) (by omega) (acc0_bd hp0 rf n) (by rw [e, set_next _ _ hl (by omega)]; exact hi)
      refine Ev.succ ?_
      by_cases hc : n < f.length
      · simp only [if_pos hc] at hs
        simp (disch := omega) only [impl_field_series.l0, if_pos, rd_n]
        refine Ev.succ ?_
        simp only [impl_field_series.j1]; exact hs
      · simp only [if_neg hc] at hs
        simp (disch := omega) only [impl_field_series.l0, if_pos, if_neg, rd_n]
        refine Ev.succ ?_
        simp only [impl_field_series.j1]; exact hs
  have hgb := rg.get hp0 0
  have hr := loop N 0 (by omega)
  simp (disch := omega) only [impl_field_series.f, if_pos, Int.toNat_natCast, Option.bind_some, List.length_replicate]
  exact Ev.bind (impl_inverse hp.p2 hp.pm hgb.1 hgb.2) hr
def scl (p c : Int) (l : List Int) : List Int := l.map fun x => c * x % p
theorem scl_len (p c : Int) (l : List Int) : (scl p c l).length = l.length := by simp [scl]
theorem scl_get (p c : Int) (l : List Int) (j : Nat) : (scl p c l).getD j 0 = c * l.getD j 0 % p := by
  unfold scl
  rw [List.getD_eq_getElem?_getD, List.getD_eq_getElem?_getD, List.getElem?_map]
  cases l[j]? with
  | none => simp
  | some x => simp
theorem sin_scl {p : Int} (c : Int) (g out : List Int) (k : Nat) : ∀ d i acc, sin p g (scl p c out) k (c * acc % p) i d = c * sin p g out k acc i d % p
  | 0, i, acc => by simp only [sin]
  | d + 1, i, acc => by
    simp only [sin]
    rw [← sin_scl c g out k d (i + 1), scl_get]
    congr 1
    rw [em_r, es_l, ← es_r, em_r, es_r, Int.mul_sub]
    congr 2
    rw [← Int.mul_assoc, ← Int.mul_assoc, Int.mul_comm (g.getD i 0) c]
theorem serN_scl {p c : Int} (hc : 0 ≤ c ∧ c < p) (g out : List Int) (k : Nat) : serN p [c] g (scl p c out) k = c * serN p [1] g out k % p := by
  unfold serN
  have e : (if k < ([c] : List Int).length then ([c] : List Int).getD k 0 else 0) = c * (if k < ([1] : List Int).length then ([1] : List Int).getD k 0 else 0) % p := by
    by_cases h : k < 1
    · have : k = 0 := by omega
      subst this
      simp [Int.emod_eq_of_lt hc.1 hc.2]
    · rw [if_neg (by simpa using h), if_neg (by simpa using h)]; simp
  rw [e, sin_scl, em_l, em_r, Int.mul_assoc]
theorem serO_scl {p c : Int} (hc : 0 ≤ c ∧ c < p) (g : List Int) : ∀ n, serO p [c] g n = scl p c (serO p [1] g n)
  | 0 => by simp [serO, scl]
  | n + 1 => by
    simp only [serO]
    rw [serO_scl hc g n, serN_scl hc]
    simp [scl]
/-- a step's divisor -/
def bel (p c : Int) (own : List Int) (n : Nat) : List Int := 1 :: (own.take (n - 1)).map fun x => (-c * x) % p
theorem bel_scl (p c : Int) (own : List Int) (n : Nat) : bel p 1 (scl p c own) n = bel p c own n := by
  unfold bel scl
  rw [← List.map_take, List.map_map]
  congr 1
  apply List.map_congr_left
  intro x _
  simp only [Function.comp]
  rw [show (-1 : Int) * (c * x % p) = -(c * x % p) by omega, en_, Int.neg_mul]
def unitL (n : Nat) : List Int := 1 :: List.replicate (n - 1) 0
theorem unitL_len (n : Nat) (h : 1 ≤ n) : (unitL n).length = n := by simp [unitL]; omega
theorem sin_zero {p : Int} (hp : 0 < p) (m : Nat) (out : List Int) (k : Nat) : ∀ d i acc, 1 ≤ i → (0 ≤ acc ∧ acc < p) → sin p (unitL m) out k acc i d = acc
  | 0, i, acc, _, _ => rfl
  | d + 1, i, acc, hi, ha => by
    simp only [sin]
    have e : (unitL m).getD i 0 = 0 := by
      unfold unitL
      obtain ⟨j, rfl⟩ : ∃ j, i = j + 1 := ⟨i - 1, by omega⟩
      rw [List.getD_eq_getElem?_getD, List.getElem?_cons_succ, List.getElem?_replicate]
      split <;> simp
    rw [e, Int.zero_mul, Int.sub_zero, Int.emod_eq_of_lt ha.1 ha.2]
    exact sin_zero hp m out k d (i + 1) acc (by omega) ha
theorem inv_1 {p : Int} (hp : 2 ≤ p) : inv p 1 = 1 := by unfold inv; rw [Int.one_pow, Int.emod_eq_of_lt (by omega) (by omega)]
theorem serO_unit {p : Int} (hp : 2 ≤ p) (m : Nat) : ∀ n, serO p [1] (unitL m) n = (if n = 0 then [] else unitL n)
  | 0 => rfl
  | n + 1 => by
    have ih := serO_unit hp m n
    have e : serN p [1] (unitL m) (serO p [1] (unitL m) n) n = if n = 0 then 1 else 0 := by
      unfold serN
      have b : (0 : Int) ≤ (if n < ([1] : List Int).length then ([1] : List Int).getD n 0 else 0) ∧ (if n < ([1] : List Int).length then ([1] : List Int).getD n 0 else 0) < p := by
        by_cases h : n < 1
        · have : n = 0 := by omega
          subst this; simp; omega
        · rw [if_neg (by simpa using h)]; omega
      rw [sin_zero (by omega) m _ n _ _ _ (by omega) b]
      have e1 : (unitL m).getD 0 0 = 1 := by simp [unitL]
      rw [e1, inv_1 hp, Int.mul_one, Int.emod_eq_of_lt b.1 b.2]
      by_cases h : n = 0
      · subst h; simp
      · rw [if_neg h, if_neg (by simp; omega)]
    simp only [serO]
    rw [e, ih]
    by_cases h : n = 0
    · subst h; simp [unitL]
    · rw [if_neg h, if_neg h, if_neg (by omega)]
      unfold unitL
      obtain ⟨j, rfl⟩ : ∃ j, n = j + 1 := ⟨n - 1, by omega⟩
      simp only [List.cons_append, Nat.add_sub_cancel]
      rw [show ([0] : List Int) = List.replicate 1 0 from rfl, List.replicate_append_replicate]
/-- behind j of the program's rounds -/
def oN (p : Int) (l : List Int) (n : Nat) : Nat → List Int
  | 0 => unitL n
  | j + 1 => serO p [1] (bel p (l.getD (l.length - 1 - j) 0) (oN p l n j) n) n
/-- behind j of the reference's rounds -/
def sN (p : Int) (l : List Int) (n : Nat) : Nat → List Int
  | 0 => List.replicate n 0
  | j + 1 => serO p [l.getD (l.length - 1 - j) 0] (bel p 1 (sN p l n j) n) n
theorem sN_oN {p : Int} (hp : 2 ≤ p) {l : List Int} (r : InR p l) (n : Nat) (hn : 1 ≤ n) : ∀ j, sN p l n (j + 1) = scl p (l.getD (l.length - 1 - j) 0) (oN p l n j)
  | 0 => by
    simp only [sN, oN]
    have hb : bel p 1 (List.replicate n 0) n = unitL n := by
      unfold bel unitL
      rw [List.take_replicate, List.map_replicate]
      simp
    rw [hb, serO_scl (r.get (by omega) _), serO_unit hp, if_neg (by omega)]
  | j + 1 => by
    have ih := sN_oN hp r n hn j
    rw [show sN p l n (j + 1 + 1) = serO p [l.getD (l.length - 1 - (j + 1)) 0] (bel p 1 (sN p l n (j + 1)) n) n from rfl, ih, bel_scl, serO_scl (r.get (by omega) _)]
    rfl
theorem oN_len (p : Int) (l : List Int) (n : Nat) (hn : 1 ≤ n) : ∀ j, (oN p l n j).length = n
  | 0 => unitL_len n hn
  | j + 1 => serO_len _ _ _ _
theorem sN_len (p : Int) (l : List Int) (n : Nat) : ∀ j, (sN p l n j).length = n
  | 0 => by simp [sN]
  | j + 1 => serO_len _ _ _ _
theorem zeros_inR {p : Int} (hp : 2 ≤ p) (n : Nat) : InR p (List.replicate n 0) := fun x hx => by rw [(List.mem_replicate.1 hx).2]; omega
theorem oN_inR {p : Int} (hp : 2 ≤ p) (l : List Int) (n : Nat) : ∀ j, InR p (oN p l n j)
  | 0 => fun x hx => by
    rcases List.mem_cons.1 hx with rfl | h
    · omega
    · exact zeros_inR hp _ x h
  | j + 1 => serO_inR (by omega) _ _ _
theorem sN_inR {p : Int} (hp : 2 ≤ p) (l : List Int) (n : Nat) : ∀ j, InR p (sN p l n j)
  | 0 => zeros_inR hp n
  | j + 1 => serO_inR (by omega) _ _ _
theorem bel_inR {p : Int} (hp : 2 ≤ p) (c : Int) (own : List Int) (n : Nat) : InR p (bel p c own n) := fun x hx => by
  rcases List.mem_cons.1 hx with rfl | h
  · omega
  · obtain ⟨y, _, rfl⟩ := List.mem_map.1 h
    exact emod_bd (by omega)
theorem bel_len (p c : Int) (own : List Int) (n : Nat) (h : own.length = n) (hn : 1 ≤ n) : (bel p c own n).length = n := by
  unfold bel; rw [List.length_cons, List.length_map, List.length_take]; omega
theorem take_snoc (l : List Int) (i : Nat) (h : i < l.length) (f : Int → Int) : (1 :: (l.take i).map f) ++ [f (l.getD i 0)] = 1 :: (l.take (i + 1)).map f := by
  rw [List.take_add_one, List.map_append, List.getD_eq_getElem?_getD, List.getElem?_eq_getElem h]
  simp
theorem bd2 {p x y : Int} (hp : p ≤ 10007) (hx : 0 ≤ x ∧ x < p) (hy : 0 ≤ y ∧ y < p) : 0 ≤ x * y ∧ x * y ≤ 100140049 := mul_bd (a := 10007) (b := 10007) hx.1 (by omega) hy.1 (by omega)
theorem spec_mos {p : Int} {l : List Int} {n : Nat} (hp : IsP p) (r : InR p l) (hn : 1 ≤ n) (hn2 : n ≤ 24) (hl : l.length ≤ 24) :
    ∀ d j, j + d = l.length → Ev (fun k => spec_l05Moments.l0 k p l (n : Int) (sN p l n j) ((d : Int) - 1)) (sN p l n l.length) := by
  intro d
  induction d with
  | zero => intro j h; refine Ev.succ ?_; rw [show j = l.length by omega]; simp (disch := omega) only [spec_l05Moments.l0, if_neg]; exact Ev.now _
  | succ d ih =>
    intro j h
    have hh := ih (j + 1) (by omega)
    have hlen := sN_len p l n j
    have hin := sN_inR hp.p2 l n j
    have hpm := hp.pm
    refine Ev.succ ?_
    simp (disch := omega) only [spec_l05Moments.l0, if_pos]
    have hser := spec_series (N := n) hp (f := [l.getD d 0]) (g := bel p 1 (sN p l n j) n) (fun x hx => by rw [List.mem_singleton.1 hx]; exact r.get hp.p0 _) (bel_inR hp.p2 _ _ _) (by rw [bel_len _ _ _ _ hlen hn]; omega) (by omega) (by simp) (by rw [bel_len _ _ _ _ hlen hn]; omega)
    have e0 : ((d + 1 : Nat) : Int) - 1 = (d : Int) := by omega
    have hS : serO p [l.getD d 0] (bel p 1 (sN p l n j) n) n = sN p l n (j + 1) := by
      simp only [sN]; rw [show l.length - 1 - j = d by omega]
    rw [hS] at hser
    have inner : ∀ q i, i + q = n - 1 → Ev (fun k => spec_l05Moments.l1 k p l (n : Int) (sN p l n j) (((d + 1 : Nat) : Int) - 1) (1 :: ((sN p l n j).take i).map fun x => (-1 * x) % p) (i : Int)) (sN p l n l.length) := by
      intro q
      induction q with
      | zero =>
        intro i hi
        refine Ev.succ ?_
        have q1 : ¬ (((i + 1 : Nat) : Int) < (n : Int)) := by omega
        rw [show i = n - 1 by omega] at *
        simp (disch := omega) only [spec_l05Moments.l1, wp1, if_neg q1, e0, if_pos, rd_n]
        refine Ev.bind hser ?_
        rw [w64 (by omega) (by omega)]
        exact hh
      | succ q ihq =>
        intro i hi
        have hi' := ihq (i + 1) (by omega)
        refine Ev.succ ?_
        have q1 : ((i + 1 : Nat) : Int) < (n : Int) := by omega
        have b := hin.get hp.p0 i
        have hw : wrap64 (-(sN p l n j).getD i 0) = -(sN p l n j).getD i 0 := w64 (by omega) (by omega)
        have ql : (1 :: ((sN p l n j).take i).map fun x => (-1 * x) % p).length < 17592186044416 := by
          rw [List.length_cons, List.length_map, List.length_take]; omega
        simp (disch := omega) only [spec_l05Moments.l1, wp1, if_pos q1, if_pos, rd_n, hw, spec_mod hp.p0 (by omega), Option.bind_some, if_pos ql]
        have e : (1 :: ((sN p l n j).take i).map fun x => (-1 * x) % p) ++ [(-(sN p l n j).getD i 0) % p] = 1 :: ((sN p l n j).take (i + 1)).map fun x => (-1 * x) % p := by
          have := take_snoc (sN p l n j) i (by omega) (fun x => (-1 * x) % p)
          simpa using this
        rw [e]; exact hi'
    have h1 := inner (n - 1) 0 (by omega)
    simpa using h1
theorem impl_mos_last {p : Int} {l own : List Int} (hp : IsP p) (r : InR p l) (ro : InR p own) (hl : 0 < l.length) (ho : own.length ≤ 24) :
    ∀ d i (acc : List Int), i + d = own.length → acc = (scl p (l.getD 0 0) own).take i ++ own.drop i → Ev (fun k => impl_MomentsOfSteps.l2 k p l p acc (own.length : Int) (i : Int)) (p, scl p (l.getD 0 0) own, 0) := by
  intro d
  induction d with
  | zero =>
    intro i acc h ha
    refine Ev.succ ?_
    have : acc = scl p (l.getD 0 0) own := by
      rw [ha, List.drop_of_length_le (by omega), List.append_nil, List.take_of_length_le (by rw [scl_len]; omega)]
    simp (disch := omega) only [impl_MomentsOfSteps.l2, if_neg, this]; exact Ev.now _
  | succ d ih =>
    intro i acc h ha
    have la : acc.length = own.length := by rw [ha, List.length_append, List.length_take, List.length_drop, scl_len]; omega
    have e1 : acc.getD i 0 = own.getD i 0 := by
      rw [ha, List.getD_eq_getElem?_getD, List.getElem?_append_right (by rw [List.length_take, scl_len]; omega), List.length_take, scl_len, List.getElem?_drop, List.getD_eq_getElem?_getD]
      rw [show i + (i - min i own.length) = i by omega]
    have e2 : acc.set i (own.getD i 0 * l.getD 0 0 % p) = (scl p (l.getD 0 0) own).take (i + 1) ++ own.drop (i + 1) := by
      rw [ha]
      have hs : (scl p (l.getD 0 0) own)[i]? = some (own.getD i 0 * l.getD 0 0 % p) := by
        rw [List.getElem?_eq_getElem (by rw [scl_len]; omega)]
        have := scl_get p (l.getD 0 0) own i
        rw [List.getD_eq_getElem?_getD, List.getElem?_eq_getElem (by rw [scl_len]; omega), Option.getD_some] at this
        rw [this, Int.mul_comm]
      rw [List.take_add_one, hs, List.drop_eq_getElem_cons (show i < own.length by omega), List.set_append_right _ _ (by rw [List.length_take, scl_len]; omega), List.length_take, scl_len]
      rw [show i - min i own.length = 0 by omega]
      simp only [List.set_cons_zero, Option.toList_some, List.append_assoc, List.singleton_append]
    have b := bd2 hp.2.1 (ro.get hp.p0 i) (r.get hp.p0 0)
    refine Ev.succ ?_
    simp (disch := omega) only [impl_MomentsOfSteps.l2, if_pos, rd_n, e1, impl_mul hp.p0 (show p ≤ 1000000000 by have := hp.pm; omega), Option.bind_some, wp1, Int.toNat_natCast]
    rw [show rd l 0 = l.getD 0 0 from rd_n l 0]
    rw [impl_mul hp.p0 (show p ≤ 1000000000 by have := hp.pm; omega) (by omega) (by omega)]
    simp only [Option.bind_some]
    rw [e2]
    exact ih (i + 1) _ (by omega) rfl
theorem impl_mos {p : Int} {l : List Int} {n : Nat} (hp : IsP p) (r : InR p l) (hn : 1 ≤ n) (hn2 : n ≤ 24) (h0 : 0 < l.length) (hl : l.length ≤ 24) :
    ∀ d j, j + d + 1 = l.length → Ev (fun k => impl_MomentsOfSteps.l0 k p l (n : Int) p (oN p l n j) (d : Int)) (p, scl p (l.getD 0 0) (oN p l n (l.length - 1)), 0) := by
  intro d
  induction d with
  | zero =>
    intro j h
    refine Ev.succ ?_
    simp (disch := omega) only [impl_MomentsOfSteps.l0, if_neg]
    rw [show j = l.length - 1 by omega]
    have := impl_mos_last hp r (oN_inR hp.p2 l n (l.length - 1)) h0 (by rw [oN_len _ _ _ hn]; omega) (oN p l n (l.length - 1)).length 0 (oN p l n (l.length - 1)) (by omega) (by simp)
    simpa using this
  | succ d ih =>
    intro j h
    have hh := ih (j + 1) (by omega)
    have hlen := oN_len p l n hn j
    have hin := oN_inR hp.p2 l n j
    have hpm := hp.pm
    have hp2 := hp.2.1
    have hp20 := hp.p2
    refine Ev.succ ?_
    have hwn : wrap64 ((n : Int) - 1) = ((n - 1 : Nat) : Int) := by rw [w64 (by omega) (by omega)]; omega
    have hm1 : (1 : Int) % p = 1 := Int.emod_eq_of_lt (by omega) (by omega)
    have q0 : ((d + 1 : Nat) : Int) > 0 := by omega
    have q1 : (0 : Int) ≤ ((n - 1 : Nat) : Int) := by omega
    have q2 : ((n - 1 : Nat) : Int) ≤ ((oN p l n j).length : Int) := by omega
    simp only [impl_MomentsOfSteps.l0, if_pos q0, impl_mod hp.p0 (show p ≤ 1000000000 by omega), hm1, Option.bind_some, hwn, if_pos q1, if_pos q2, Int.toNat_natCast]
    have c := r.get hp.p0 (d + 1)
    have hser := impl_series (N := n) hp (f := [1]) (g := bel p (l.getD (d + 1) 0) (oN p l n j) n) (fun x hx => by rw [List.mem_singleton.1 hx]; omega) (bel_inR hp.p2 _ _ _) (by rw [bel_len _ _ _ _ hlen hn]; omega) (by omega) (by simp) (by rw [bel_len _ _ _ _ hlen hn]; omega)
    have hS : serO p [1] (bel p (l.getD (d + 1) 0) (oN p l n j) n) n = oN p l n (j + 1) := by
      simp only [oN]; rw [show l.length - 1 - j = d + 1 by omega]
    rw [hS] at hser
    have ht : ((oN p l n j).take (n - 1)).length = n - 1 := by rw [List.length_take]; omega
    have hgt : ∀ i, i < n - 1 → ((oN p l n j).take (n - 1)).getD i 0 = (oN p l n j).getD i 0 := by
      intro i hi
      rw [List.getD_eq_getElem?_getD, List.getElem?_take, if_pos hi, List.getD_eq_getElem?_getD]
    rw [ht]
    have inner : ∀ q i, i + q = n - 1 → Ev (fun k => impl_MomentsOfSteps.l1 k p l (n : Int) p (oN p l n j) ((d + 1 : Nat) : Int) (1 :: ((oN p l n j).take i).map fun x => (-l.getD (d + 1) 0 * x) % p) ((oN p l n j).take (n - 1)) ((n - 1 : Nat) : Int) (i : Int)) (p, scl p (l.getD 0 0) (oN p l n (l.length - 1)), 0) := by
      intro q
      induction q with
      | zero =>
        intro i hi
        refine Ev.succ ?_
        rw [show i = n - 1 by omega]
        simp (disch := omega) only [impl_MomentsOfSteps.l1, if_neg]
        refine Ev.bind hser ?_
        have e0 : wrap64 (((d + 1 : Nat) : Int) - 1) = (d : Int) := by rw [w64 (by omega) (by omega)]; omega
        rw [e0]
        exact hh
      | succ q ihq =>
        intro i hi
        have hi' := ihq (i + 1) (by omega)
        refine Ev.succ ?_
        have b := hin.get hp.p0 i
        have bb := bd2 hp2 c b
        have hw : wrap64 (-l.getD (d + 1) 0) = -l.getD (d + 1) 0 := w64 (by omega) (by omega)
        have hw2 : wrap64 (-l.getD (d + 1) 0 * (oN p l n j).getD i 0) = -l.getD (d + 1) 0 * (oN p l n j).getD i 0 := by
          rw [Int.neg_mul]; exact w64 (by omega) (by omega)
        have ql : (1 :: ((oN p l n j).take i).map fun x => (-l.getD (d + 1) 0 * x) % p).length < 17592186044416 := by
          rw [List.length_cons, List.length_map, List.length_take]; omega
        have e3 : rd ((oN p l n j).take (n - 1)) (i : Int) = (oN p l n j).getD i 0 := by rw [rd_n, hgt i (by omega)]
        have e4 : rd l ((d + 1 : Nat) : Int) = l.getD (d + 1) 0 := rd_n _ _
        have q3 : (i : Int) < ((n - 1 : Nat) : Int) := by omega
        have q4 : (0 : Int) ≤ (i : Int) := by omega
        have q5 : (i : Int) < (((oN p l n j).take (n - 1)).length : Int) := by rw [ht]; exact q3
        have q6 : (0 : Int) ≤ ((d + 1 : Nat) : Int) := by omega
        have q7 : ((d + 1 : Nat) : Int) < (l.length : Int) := by omega
        simp only [impl_MomentsOfSteps.l1, if_pos q3, if_pos q4, if_pos q5, if_pos q6, if_pos q7, e3, e4, hw, hw2, impl_mod hp.p0 (show p ≤ 1000000000 by omega), Option.bind_some, if_pos ql, wp1 (show i ≤ 1000000000000 by omega)]
        have e := take_snoc (oN p l n j) i (by omega) (fun x => (-l.getD (d + 1) 0 * x) % p)
        rw [e]; exact hi'
    have h1 := inner (n - 1) 0 (by omega)
    simpa using h1
theorem spec_zeros {p : Int} {l : List Int} {n : Nat} (hp : IsP p) (r : InR p l) (hn : 1 ≤ n) (hn2 : n ≤ 24) (h0 : 0 < l.length) (hl : l.length ≤ 24) :
    ∀ d i, i + d + 1 = l.length → Ev (fun k => spec_MomentsOfSteps.l0 k p l (n : Int) (i : Int)) (if ((l.take (l.length - 1)).drop i).any (fun y => decide (0 = y)) = true then (0, [], 5) else (p, sN p l n l.length, 0)) := by
  intro d
  induction d with
  | zero =>
    intro i h
    refine Ev.succ ?_
    rw [List.drop_of_length_le (by rw [List.length_take]; omega)]
    simp (disch := omega) only [spec_MomentsOfSteps.l0, wp1, if_neg, List.any_nil, Bool.false_eq_true, if_false]
    have hm := spec_mos hp r hn hn2 hl l.length 0 (by omega)
    have hf : Ev (fun k => spec_l05Moments.f k p l (n : Int)) (sN p l n l.length) := by
      simp (disch := omega) only [spec_l05Moments.f, if_pos, Int.toNat_natCast]
      rw [w64 (by omega) (by omega)]
      simpa [sN] using hm
    exact Ev.bind hf (Ev.now _)
  | succ d ih =>
    intro i h
    have hi := ih (i + 1) (by omega)
    refine Ev.succ ?_
    have e : rd l (i : Int) = l[i]'(by omega) := rd_lt l i (by omega)
    have ed : (l.take (l.length - 1)).drop i = l[i]'(by omega) :: (l.take (l.length - 1)).drop (i + 1) := by
      rw [List.drop_eq_getElem_cons (by rw [List.length_take]; omega)]
      simp
    rw [ed, List.any_cons]
    simp (disch := omega) only [spec_MomentsOfSteps.l0, wp1, if_pos, e]
    by_cases hz : l[i]'(by omega) = 0
    · simp only [if_pos hz, hz, decide_true, Bool.true_or, if_true]; exact Ev.now _
    · simp only [if_neg hz, decide_eq_false (show ¬ (0 : Int) = l[i]'(by omega) from fun h => hz h.symm), Bool.false_or]; exact hi
end Go.Proofs.Ytepigphelclpcaa.H
