/- Plain laws that the claim of FnExactPowerSums reaches: numbers modulo a prime, lists, and what the printed functions answer. -/
import Derived.RowKit
import Derived.Test.YtiffnigjblbakaaYWWords
import Derived.Test.YtiffnigjblbakaaYWMore
import Derived.Test.YtiffnigjblbakaaYHx0
import Derived.Test.YtiffnigjblbakaaMa4
import Derived.Test.YtiffnigjblbakaaMa1
import Derived.Test.YtiffnigjblbakaaMa2
import Derived.Test.YtiffnigjblbakaaMa3
import Derived.Test.YtiffnigjblbakaaMa5
import Derived.Test.YtiffnigjblbakaaMa7
import Derived.Test.YtiffnigjblbakaaMa6
set_option linter.unusedVariables false
set_option linter.unusedSimpArgs false
namespace Go.Proofs.Ytiffnigjblbakaa.Num
open Go.RowKit
theorem w64 {x : Int} (h1 : -9223372036854775808 ≤ x) (h2 : x ≤ 9223372036854775807) : wrap64 x = x := by
  unfold wrap64; omega
theorem tmod_nn {a b : Int} (h : 0 ≤ a) : Int.tmod a b = a % b := Int.tmod_eq_emod_of_nonneg h
theorem tmod_lt' {x p : Int} (hp : 0 < p) : Int.tmod x p < p ∧ -p < Int.tmod x p := by
  constructor
  · exact Int.tmod_lt_of_pos x hp
  · have h := Int.tmod_lt_of_pos (-x) hp
    rw [Int.neg_tmod] at h
    omega
/-- the program's way to a number of the field -/
theorem md {x p : Int} (hp : 0 < p) (hp2 : p ≤ 1000000000) : Int.tmod (wrap64 (Int.tmod x p + p)) p = x % p := by
  obtain ⟨h1, h2⟩ := tmod_lt' (x := x) hp
  rw [w64 (by omega) (by omega), tmod_nn (by omega), Int.tmod_def]
  have : x - p * x.tdiv p + p = x + p * (1 - x.tdiv p) := by
    rw [Int.mul_sub]; omega
  rw [this, Int.add_mul_emod_self_left]
theorem emod_bd {x p : Int} (hp : 0 < p) : 0 ≤ x % p ∧ x % p < p := ⟨Int.emod_nonneg _ (by omega), Int.emod_lt_of_pos _ hp⟩
theorem mul_bd {x y a b : Int} (hx0 : 0 ≤ x) (hx : x ≤ a) (hy0 : 0 ≤ y) (hy : y ≤ b) : 0 ≤ x * y ∧ x * y ≤ a * b :=
  ⟨Int.mul_nonneg hx0 hy0, Int.mul_le_mul hx hy hy0 (by omega)⟩
theorem em_l (a b p : Int) : a % p * b % p = a * b % p := by rw [Int.mul_emod, Int.emod_emod, ← Int.mul_emod]
/-- what trial division tells -/
def Pr (p : Nat) : Prop := 2 ≤ p ∧ ∀ d, d ∣ p → d = 1 ∨ d = p
theorem Pr.of_trial {p : Nat} (h2 : 2 ≤ p) (h : ∀ d, 2 ≤ d → d * d ≤ p → p % d ≠ 0) : Pr p := by
  refine ⟨h2, fun d hd => ?_⟩
  obtain ⟨e, he⟩ := hd
  have hd0 : 0 < d := by rcases Nat.eq_zero_or_pos d with h0 | h0; (subst h0; simp at he; omega); exact h0
  have he0 : 0 < e := by rcases Nat.eq_zero_or_pos e with h0 | h0; (subst h0; simp at he; omega); exact h0
  rcases Nat.lt_or_ge d 2 with h1 | h1
  · left; omega
  rcases Nat.lt_or_ge e 2 with h3 | h3
  · right
    have : e = 1 := by omega
    subst this; simpa using he.symm
  · exfalso
    rcases Nat.le_total d e with hle | hle
    · refine h d h1 ?_ ?_
      · rw [he]; exact Nat.mul_le_mul_left d hle
      · rw [he]; exact Nat.mul_mod_right d e
    · refine h e h3 ?_ ?_
      · rw [he]; exact Nat.mul_le_mul_right e hle
      · rw [he]; exact Nat.mul_mod_left d e
theorem Pr.cop {p a : Nat} (hp : Pr p) (ha : ¬ p ∣ a) : Nat.Coprime p a := by
  rcases hp.2 _ (Nat.gcd_dvd_left p a) with h | h
  · exact h
  · exact absurd (h ▸ Nat.gcd_dvd_right p a) ha
theorem Pr.euclid {p a b : Nat} (hp : Pr p) (h : p ∣ a * b) : p ∣ a ∨ p ∣ b := by
  by_cases ha : p ∣ a
  · exact .inl ha
  · exact .inr ((hp.cop ha).dvd_of_dvd_mul_left h)
theorem Pr.pow {p a : Nat} (hp : Pr p) (ha : ¬ p ∣ a) : ∀ n, ¬ p ∣ a ^ n
  | 0 => fun h => by
    have h1 := Nat.le_of_dvd (by simp) h
    have := hp.1
    simp only [Nat.pow_zero] at h1
    omega
  | n + 1 => fun h => by
    rw [Nat.pow_succ] at h
    rcases hp.euclid h with h | h
    · exact Pr.pow hp ha n h
    · exact ha h
def ch : Nat → Nat → Nat
  | _, 0 => 1
  | 0, _ + 1 => 0
  | n + 1, k + 1 => ch n k + ch n (k + 1)
theorem ch_gt : ∀ n k, n < k → ch n k = 0
  | 0, k + 1, _ => by simp [ch]
  | n + 1, k + 1, h => by simp [ch, ch_gt n k (by omega), ch_gt n (k + 1) (by omega)]
theorem ch_self : ∀ n, ch n n = 1
  | 0 => by simp [ch]
  | n + 1 => by simp [ch, ch_self n, ch_gt n (n + 1) (by omega)]
theorem ch_mul : ∀ n k, (k + 1) * ch (n + 1) (k + 1) = (n + 1) * ch n k
  | 0, 0 => by simp [ch]
  | 0, k + 1 => by simp [ch]
  | n + 1, 0 => by
    have h := ch_mul n 0
    have h0 : ch n 0 = 1 := by cases n <;> simp [ch]
    have h00 : ch (n+1) 0 = 1 := by simp [ch]
    have e : ch (n + 1 + 1) (0 + 1) = ch (n + 1) 0 + ch (n + 1) (0 + 1) := by simp [ch]
    rw [e, h00]
    rw [h0] at h
    omega
  | n + 1, k + 1 => by
    have h1 := ch_mul n k
    have h2 := ch_mul n (k + 1)
    have e1 : ch (n + 1 + 1) (k + 1 + 1) = ch (n + 1) (k + 1) + ch (n + 1) (k + 1 + 1) := by simp [ch]
    have e2 : ch (n + 1) (k + 1) = ch n k + ch n (k + 1) := by simp [ch]
    rw [e1, Nat.mul_add]
    rw [h2]
    have : (k + 1 + 1) * ch (n + 1) (k + 1) = ch (n + 1) (k + 1) + (k + 1) * ch (n + 1) (k + 1) := by
      rw [Nat.add_mul (k+1) 1, Nat.one_mul]; omega
    rw [this, h1]
    have e3 : (n + 1 + 1) * ch (n + 1) (k + 1) = (n + 1) * ch (n + 1) (k + 1) + ch (n + 1) (k + 1) := by rw [Nat.add_mul, Nat.one_mul]
    rw [e3, e2, Nat.mul_add]
    omega
def sm (f : Nat → Nat) : Nat → Nat
  | 0 => 0
  | n + 1 => sm f n + f n
theorem sm_head (f : Nat → Nat) : ∀ n, sm f (n + 1) = f 0 + sm (fun k => f (k + 1)) n
  | 0 => by simp [sm]
  | n + 1 => by
    have h := sm_head f n
    rw [show sm f (n + 1 + 1) = sm f (n + 1) + f (n + 1) from rfl, h]
    simp only [sm]; omega
theorem sm_add (f g : Nat → Nat) : ∀ n, sm (fun k => f k + g k) n = sm f n + sm g n
  | 0 => rfl
  | n + 1 => by simp only [sm, sm_add f g n]; omega
theorem sm_mul (a : Nat) (f : Nat → Nat) : ∀ n, sm (fun k => a * f k) n = a * sm f n
  | 0 => rfl
  | n + 1 => by simp only [sm, sm_mul a f n]; rw [Nat.mul_add]
theorem sm_congr {f g : Nat → Nat} (h : ∀ k, f k = g k) (n : Nat) : sm f n = sm g n := by
  have : f = g := funext h
  rw [this]
theorem binom (a : Nat) : ∀ n, (a + 1) ^ n = sm (fun k => ch n k * a ^ k) (n + 1)
  | 0 => by simp [sm, ch]
  | n + 1 => by
    rw [Nat.pow_succ, binom a n, sm_head (fun k => ch (n + 1) k * a ^ k) (n + 1)]
    have e : sm (fun k => ch (n + 1) (k + 1) * a ^ (k + 1)) (n + 1) = sm (fun k => a * (ch n k * a ^ k)) (n + 1) + sm (fun k => ch n (k + 1) * a ^ (k + 1)) (n + 1) := by
      rw [← sm_add]
      refine sm_congr (fun k => ?_) _
      simp only [ch]
      rw [Nat.add_mul, Nat.pow_succ]
      have : ch n k * (a ^ k * a) = a * (ch n k * a ^ k) := by
        rw [← Nat.mul_assoc, Nat.mul_comm]
      rw [this]
    rw [e, sm_mul]
    have e2 : sm (fun k => ch n (k + 1) * a ^ (k + 1)) (n + 1) = sm (fun k => ch n (k + 1) * a ^ (k + 1)) n := by
      simp only [sm]; rw [ch_gt n (n + 1) (by omega)]; simp
    rw [e2]
    have e3 := sm_head (fun k => ch n k * a ^ k) n
    have h0 : ch n 0 = 1 := by cases n <;> simp [ch]
    have h00 : ch (n+1) 0 = 1 := by simp [ch]
    rw [h0] at e3
    rw [h00]
    simp only [Nat.pow_zero, Nat.mul_one] at e3 ⊢
    rw [Nat.mul_add, Nat.mul_one, Nat.mul_comm a]
    omega
theorem sm_dvd {p : Nat} (f : Nat → Nat) : ∀ n, (∀ k, k < n → p ∣ f k) → p ∣ sm f n
  | 0, _ => ⟨0, rfl⟩
  | n + 1, h => Nat.dvd_add (sm_dvd f n fun k hk => h k (by omega)) (h n (by omega))
theorem Pr.ch_dvd {p k : Nat} (hp : Pr p) (h0 : 0 < k) (h1 : k < p) : p ∣ ch p k := by
  obtain ⟨q, rfl⟩ : ∃ q, p = q + 1 := ⟨p - 1, by omega⟩
  obtain ⟨j, rfl⟩ : ∃ j, k = j + 1 := ⟨k - 1, by omega⟩
  have h := ch_mul q j
  have hd : (q + 1) ∣ (j + 1) * ch (q + 1) (j + 1) := ⟨ch q j, h⟩
  rcases hp.euclid hd with h' | h'
  · have := Nat.le_of_dvd (by omega) h'; omega
  · exact h'
theorem Pr.fermat {p : Nat} (hp : Pr p) : ∀ a, a ^ p % p = a % p
  | 0 => by rw [Nat.zero_pow (by have := hp.1; omega)]
  | a + 1 => by
    have ih := Pr.fermat hp a
    rw [binom a p, sm_head]
    obtain ⟨q, hq⟩ : ∃ q, p = q + 1 := ⟨p - 1, by have := hp.1; omega⟩
    have h0 : ch p 0 * a ^ 0 = 1 := by rw [hq]; simp [ch]
    have e : sm (fun k => ch p (k + 1) * a ^ (k + 1)) p = sm (fun k => ch p (k + 1) * a ^ (k + 1)) q + a ^ p := by
      rw [hq]; simp only [sm]; rw [ch_self, Nat.one_mul]
    rw [h0, e]
    have hd : p ∣ sm (fun k => ch p (k + 1) * a ^ (k + 1)) q :=
      sm_dvd _ q fun k hk => Nat.dvd_trans (hp.ch_dvd (by omega) (by omega)) (Nat.dvd_mul_right _ _)
    obtain ⟨c, hc⟩ := hd
    rw [hc]
    rw [show 1 + (p * c + a ^ p) = (1 + a ^ p) + p * c by omega, Nat.add_mul_mod_self_left, Nat.add_mod, ih, ← Nat.add_mod, Nat.add_comm]
theorem dvd_sub_of_mod {p a b : Nat} (hle : a ≤ b) (h : a % p = b % p) : p ∣ b - a := by
  refine ⟨b / p - a / p, ?_⟩
  have h1 := Nat.div_add_mod a p
  have h2 := Nat.div_add_mod b p
  rw [Nat.mul_sub]
  omega
theorem Pr.fermat1 {p a : Nat} (hp : Pr p) (ha : ¬ p ∣ a) : a ^ (p - 1) % p = 1 := by
  have h := hp.fermat a
  obtain ⟨q, hq⟩ : ∃ q, p = q + 1 := ⟨p - 1, by have := hp.1; omega⟩
  have ha0 : 1 ≤ a ^ q := Nat.one_le_iff_ne_zero.mpr (by
    intro h0
    have : a = 0 := by
      rcases Nat.eq_zero_or_pos a with h1 | h1
      · exact h1
      · have := Nat.pow_pos (n := q) h1; omega
    exact ha (this ▸ ⟨0, rfl⟩))
  have hd : p ∣ a * (a ^ q - 1) := by
    have e : a * (a ^ q - 1) = a ^ p - a := by rw [hq, Nat.pow_succ, Nat.mul_sub, Nat.mul_one, Nat.mul_comm]
    rw [e]
    have hle : a ≤ a ^ p := by rw [hq, Nat.pow_succ]; exact Nat.le_mul_of_pos_left a ha0
    exact dvd_sub_of_mod hle h.symm
  rcases hp.euclid hd with h' | h'
  · exact absurd h' ha
  · rw [show p - 1 = q by omega]
    obtain ⟨c, hc⟩ := h'
    have h1 : (1 : Nat) % p = 1 := Nat.mod_eq_of_lt (by have := hp.1; omega)
    have e : a ^ q = 1 + p * c := by omega
    rw [e, Nat.add_mul_mod_self_left, h1]
theorem pow_emod (p x : Int) (n : Nat) : (x % p) ^ n % p = x ^ n % p := by
  induction n with
  | zero => simp
  | succ n ih => rw [Int.pow_succ, Int.pow_succ, Int.mul_emod, ih, Int.emod_emod_of_dvd _ (Int.dvd_refl p), ← Int.mul_emod]
theorem pw_step {p : Int} (out x : Int) (n : Nat) : out * (x * x % p) ^ n % p = out * x ^ (2 * n) % p := by
  rw [Int.mul_emod, pow_emod, ← Int.mul_emod, Int.pow_mul, show x ^ 2 = x * x by rw [Int.pow_succ, Int.pow_succ, Int.pow_zero, Int.one_mul]]
/-- the loop that squares and multiplies, in the program's spelling (no last reduction) -/
theorem pow_loop (l : Nat → Int → Int → Int → Int → Option Int) (fin : Int → Int → Option Int) (m : Int → Int) (p : Int) (hp : 2 ≤ p) (hp2 : p ≤ 1000000) (hm : ∀ y, 0 ≤ y → m y = y % p)
    (hl : ∀ k e out x, l (k + 1) p e out x = if e > 0 then (if Int.tmod e 2 = 1 then l k p (wrap64 (Int.tdiv e 2)) (m (wrap64 (out * x))) (m (wrap64 (x * x))) else l k p (wrap64 (Int.tdiv e 2)) out (m (wrap64 (x * x)))) else fin p out)
    (d : Nat) : ∀ (k : Nat) (e out x : Int), e < d → d < k → 0 ≤ e → e ≤ 1000000000 → 0 ≤ out → out < p → 0 ≤ x → x < p → l k p e out x = fin p (out * x ^ e.toNat % p) := by
  induction d with
  | zero => intro k e out x h; omega
  | succ d ih =>
    intro k e out x he hk h0 h9 o0 o1 x0 x1
    obtain ⟨k, rfl⟩ : ∃ m, k = m + 1 := ⟨k - 1, by omega⟩
    rw [hl]
    by_cases h : e > 0
    · rw [if_pos h]
      have hb1 := mul_bd (a := 1000000) (b := 1000000) o0 (by omega) x0 (by omega)
      have hb2 := mul_bd (a := 1000000) (b := 1000000) x0 (by omega) x0 (by omega)
      have e1 : Int.tdiv e 2 = e / 2 := Int.tdiv_eq_ediv_of_nonneg h0
      have e2 : Int.tmod e 2 = e % 2 := tmod_nn h0
      have ew : wrap64 (e / 2) = e / 2 := w64 (by omega) (by omega)
      rw [e1, e2, ew, w64 (x := out * x) (by omega) (by omega), w64 (x := x * x) (by omega) (by omega), hm _ hb1.1, hm _ hb2.1]
      have b2 := emod_bd (x := x * x) (p := p) (by omega)
      have b1 := emod_bd (x := out * x) (p := p) (by omega)
      by_cases h1 : e % 2 = 1
      · rw [if_pos h1, ih k (e / 2) (out * x % p) (x * x % p) (by omega) (by omega) (by omega) (by omega) b1.1 b1.2 b2.1 b2.2, pw_step]
        have hn : e.toNat = 2 * (e / 2).toNat + 1 := by omega
        rw [hn, Int.pow_succ, em_l]
        have : out * x * x ^ (2 * (e / 2).toNat) = out * (x ^ (2 * (e / 2).toNat) * x) := by
          rw [Int.mul_assoc, Int.mul_comm x]
        rw [this]
      · rw [if_neg h1, ih k (e / 2) out (x * x % p) (by omega) (by omega) (by omega) (by omega) o0 o1 b2.1 b2.2, pw_step]
        have hn : e.toNat = 2 * (e / 2).toNat := by omega
        rw [hn]
    · rw [if_neg h]
      have hz : e.toNat = 0 := by omega
      rw [hz, Int.pow_zero, Int.mul_one, Int.emod_eq_of_lt o0 o1]
/-- is it a prime of the program's? -/
def IsP (p : Int) : Prop := 2 ≤ p ∧ p ≤ 10007 ∧ Pr p.toNat
open Classical in
/-- the same as a bool -/
noncomputable def primeB (p : Int) : Bool := decide (IsP p)
theorem primeB_iff {p : Int} : primeB p = true ↔ IsP p := by
  unfold primeB; exact @decide_eq_true_iff _ (Classical.propDecidable _)
theorem prime_loop (l : Nat → Int → Int → Option Bool) (p : Int) (hp : 2 ≤ p) (hp2 : p ≤ 10007)
    (hl : ∀ k i, l (k + 1) p i = if wrap64 (i * i) ≤ p then (if i = 0 then none else (if Int.tmod p i = 0 then some false else l k p (wrap64 (i + 1)))) else some true)
    (d : Nat) : ∀ (k : Nat) (i : Int), 2 ≤ i → i ≤ 101 → 101 - i < d → d < k →
      ∃ b, l k p i = some b ∧ (b = true ↔ ∀ j : Int, i ≤ j → j * j ≤ p → p % j ≠ 0) := by
  induction d with
  | zero => intro k i h1 h2 h3; omega
  | succ d ih =>
    intro k i h1 h2 h3 hk
    obtain ⟨k, rfl⟩ : ∃ m, k = m + 1 := ⟨k - 1, by omega⟩
    rw [hl]
    have hb := mul_bd (a := 101) (b := 101) (x := i) (y := i) (by omega) h2 (by omega) h2
    rw [w64 (by omega) (by omega), w64 (x := i + 1) (by omega) (by omega)]
    by_cases hle : i * i ≤ p
    · have hi : i ≤ 100 := by
        rcases Int.lt_or_le 100 i with h | h
        · have := Int.mul_le_mul (a := 101) (b := 101) (c := i) (d := i) (by omega) (by omega) (by omega) (by omega); omega
        · exact h
      rw [if_pos hle, if_neg (by omega), tmod_nn (by omega)]
      by_cases hd : p % i = 0
      · rw [if_pos hd]
        exact ⟨false, rfl, by simp; exact ⟨i, Int.le_refl _, hle, hd⟩⟩
      · rw [if_neg hd]
        obtain ⟨b, hb1, hb2⟩ := ih k (i + 1) (by omega) (by omega) (by omega) (by omega)
        refine ⟨b, hb1, hb2.trans ⟨fun h j hj hjj => ?_, fun h j hj hjj => h j (by omega) hjj⟩⟩
        by_cases e : j = i
        · subst e; exact hd
        · exact h j (by omega) hjj
    · rw [if_neg hle]
      refine ⟨true, rfl, by simp; intro j hj hjj; exfalso; apply hle; exact Int.le_trans (Int.mul_le_mul hj hj (by omega) (by omega)) hjj⟩
theorem trial_iff {p : Int} (hp : 2 ≤ p) : (∀ j : Int, 2 ≤ j → j * j ≤ p → p % j ≠ 0) ↔ Pr p.toNat := by
  constructor
  · intro h
    refine Pr.of_trial (by omega) fun d hd hdd h0 => ?_
    refine h d (by omega) ?_ ?_
    · have : ((d * d : Nat) : Int) ≤ p := by omega
      simpa using this
    · have : ((p.toNat % d : Nat) : Int) = 0 := by rw [h0]; rfl
      rw [Int.natCast_emod, Int.toNat_of_nonneg (by omega)] at this
      exact this
  · intro h j hj hjj h0
    obtain ⟨d, rfl⟩ : ∃ d : Nat, j = d := ⟨j.toNat, by omega⟩
    obtain ⟨n, rfl⟩ : ∃ n : Nat, p = n := ⟨p.toNat, by omega⟩
    simp only [Int.toNat_natCast] at h
    have hdv : d ∣ n := by
      apply Nat.dvd_of_mod_eq_zero
      have : ((n % d : Nat) : Int) = 0 := by rw [Int.natCast_emod]; exact h0
      omega
    have hn : d * d ≤ n := by
      have : ((d * d : Nat) : Int) ≤ n := by simpa using hjj
      omega
    rcases h.2 d hdv with e | e
    · omega
    · subst e
      have : d * 2 ≤ d * d := Nat.mul_le_mul_left d (by omega)
      omega
theorem primeB_loop {p : Int} {b : Bool} (h1 : 2 ≤ p) (h2 : p ≤ 10007) (h : b = true ↔ ∀ j : Int, 2 ≤ j → j * j ≤ p → p % j ≠ 0) : b = primeB p := by
  rw [Bool.eq_iff_iff, primeB_iff, h, trial_iff h1]
  exact ⟨fun h => ⟨h1, h2, h⟩, fun h => h.2.2⟩
theorem primeB_lo {p : Int} (h : ¬ 2 ≤ p) : primeB p = false := by
  rw [Bool.eq_false_iff]; intro e; exact h (primeB_iff.1 e).1
theorem primeB_hi {p : Int} (h : ¬ p ≤ 10007) : primeB p = false := by
  rw [Bool.eq_false_iff]; intro e; exact h (primeB_iff.1 e).2.1
end Go.Proofs.Ytiffnigjblbakaa.Num
namespace Go.Proofs.Ytiffnigjblbakaa.H
open Go.RowKit Go.Proofs.YtiffnigjblbakaaW.PrintWords Go.Proofs.YtiffnigjblbakaaW.PrintLast Go.Proofs.YtiffnigjblbakaaW.PrintMore Go.Proofs.Ytiffnigjblbakaa.Num
theorem Ev.succ {α : Type} {g : Nat → Option α} {r : α} (h : Ev (fun k => g (k + 1)) r) : Ev g r := by
  obtain ⟨K, h⟩ := h
  refine ⟨K + 1, fun k hk => ?_⟩
  obtain ⟨m, rfl⟩ : ∃ m, k = m + 1 := ⟨k - 1, by omega⟩
  exact h m (by omega)
theorem wp1 {i : Nat} (h : i ≤ 1000000000000) : wrap64 ((i : Int) + 1) = ((i + 1 : Nat) : Int) := by rw [w64 (by omega) (by omega)]; omega
theorem rd_n (l : List Int) (i : Nat) : rd l (i : Int) = l.getD i 0 := by simp [rd]
theorem rd_nat (l : List Int) (i : Nat) : rd l (i : Int) = l.getD i 0 := by simp [rd]
theorem rd_lt (l : List Int) (i : Nat) (h : i < l.length) : rd l (i : Int) = l[i] := by simp [rd, h]
theorem wn {i : Nat} (h : i ≤ 1000000000000) : wrap64 ((i : Int) + 1) = ((i + 1 : Nat) : Int) := by rw [w64 (by omega) (by omega)]; omega
theorem toI_loop (l : List Int) (hl : l.length ≤ 1000000000) (d : Nat) : ∀ (k i : Nat) (acc : List Int), i + d = l.length → acc.length = l.length → acc.take i = l.take i → d < k → laws_toInt64S.l0 k l acc (i : Int) = some l := by
  induction d with
  | zero =>
    intro k i acc h1 h2 h3 hk
    obtain ⟨k, rfl⟩ : ∃ m, k = m + 1 := ⟨k - 1, by omega⟩
    simp only [laws_toInt64S.l0]
    rw [if_neg (by omega)]
    have : acc = l := by
      have e1 : acc.take i = acc := List.take_of_length_le (by omega)
      have e2 : l.take i = l := List.take_of_length_le (by omega)
      rw [e1, e2] at h3; exact h3
    rw [this]
  | succ d ih =>
    intro k i acc h1 h2 h3 hk
    obtain ⟨k, rfl⟩ : ∃ m, k = m + 1 := ⟨k - 1, by omega⟩
    simp only [laws_toInt64S.l0]
    rw [if_pos (by omega), if_pos (by omega), if_pos (by omega), wn (by omega), rd_lt l i (by omega), Int.toNat_natCast]
    refine ih k (i + 1) _ (by omega) (by simpa using h2) ?_ (by omega)
    rw [List.take_succ_eq_append_getElem (by simp; omega), List.take_succ_eq_append_getElem (by omega), List.getElem_set_self, List.take_set_of_le (Nat.le_refl i), h3]
theorem toI_same (l : List Int) (hl : l.length ≤ 1048576) : ∃ K, ∀ k, K ≤ k → laws_toInt64S.f k l = some l := by
  refine ⟨l.length + 2, fun k hk => ?_⟩
  unfold laws_toInt64S.f
  rw [if_pos (by omega), if_pos (by omega)]
  exact toI_loop l (by omega) l.length k 0 _ (by omega) (by simp) (by simp) (by omega)
theorem eqI_loop (l : List Int) (hl : l.length ≤ 1000000000) (d : Nat) : ∀ (k i : Nat), i + d = l.length → d < k → laws_eqInt64S.l0 k l l (i : Int) = some true := by
  induction d with
  | zero =>
    intro k i h1 hk
    obtain ⟨k, rfl⟩ : ∃ m, k = m + 1 := ⟨k - 1, by omega⟩
    simp only [laws_eqInt64S.l0]
    rw [if_neg (by omega)]
  | succ d ih =>
    intro k i h1 hk
    obtain ⟨k, rfl⟩ : ∃ m, k = m + 1 := ⟨k - 1, by omega⟩
    simp only [laws_eqInt64S.l0]
    rw [if_pos (by omega), if_pos (by omega), if_pos (by omega), if_pos trivial, wn (by omega)]
    exact ih k (i + 1) (by omega) (by omega)
theorem eqI_same (l : List Int) (hl : l.length ≤ 2000000) : ∃ K, ∀ k, K ≤ k → laws_eqInt64S.f k l l = some true := by
  refine ⟨l.length + 2, fun k hk => ?_⟩
  unfold laws_eqInt64S.f
  rw [if_pos rfl]
  exact eqI_loop l (by omega) l.length k 0 (by omega) (by omega)
/-- n, n + 1, .. : d of them -/
def up (n : Int) : Nat → List Int
  | 0 => []
  | d + 1 => n :: up (n + 1) d
theorem up_len : ∀ (d : Nat) (n : Int), (up n d).length = d
  | 0, _ => rfl
  | d + 1, n => by simp [up, up_len d]
theorem mark_loop (d : Nat) : ∀ (k i : Nat) (l : List Int) (n : Int), i + d = l.length → l.length ≤ 1000000000 → 0 ≤ n → n + d ≤ 1000000000000 → d < k → laws_markInt64S.l0 k l n (i : Int) = some (n + d, l.take i ++ up n d) := by
  induction d with
  | zero =>
    intro k i l n h1 h2 h3 h4 hk
    obtain ⟨k, rfl⟩ : ∃ m, k = m + 1 := ⟨k - 1, by omega⟩
    simp only [laws_markInt64S.l0]
    rw [if_neg (by omega), List.take_of_length_le (by omega)]
    simp [up]
  | succ d ih =>
    intro k i l n h1 h2 h3 h4 hk
    obtain ⟨k, rfl⟩ : ∃ m, k = m + 1 := ⟨k - 1, by omega⟩
    simp only [laws_markInt64S.l0]
    have hw : wrap64 (n + 1) = n + 1 := w64 (by omega) (by omega)
    rw [if_pos (by omega), if_pos (by omega), wn (by omega), Int.toNat_natCast, hw]
    rw [ih k (i + 1) _ (n + 1) (by simp; omega) (by simpa using h2) (by omega) (by omega) (by omega)]
    rw [List.take_succ_eq_append_getElem (by simp; omega), List.getElem_set_self, List.take_set_of_le (Nat.le_refl i)]
    simp only [up, List.append_assoc, List.cons_append, List.nil_append]
    congr 2
    omega
theorem mark_up (l : List Int) (hl : l.length ≤ 2000000) (n : Int) (h0 : 0 ≤ n) (h1 : n ≤ 100000000) : ∃ K, ∀ k, K ≤ k → laws_markInt64S.f k l n = some (n + l.length, up n l.length) := by
  refine ⟨l.length + 2, fun k hk => ?_⟩
  unfold laws_markInt64S.f
  have := mark_loop l.length k 0 l n (by omega) (by omega) h0 (by omega) (by omega)
  simpa using this
theorem up_get : ∀ (d i : Nat) (n : Int) (h : i < d), (up n d)[i]'(by rw [up_len]; exact h) = n + i
  | d + 1, 0, n, _ => by simp [up]
  | d + 1, i + 1, n, h => by simp only [up, List.getElem_cons_succ]; rw [up_get d i (n + 1) (by omega)]; omega
theorem held_loop (m : Nat) (n0 : Int) (hm : m ≤ 1000000000) (h0 : 0 ≤ n0) (hb : n0 ≤ 1000000000) (d : Nat) : ∀ (k i : Nat), i + d = m → d < k → laws_heldInt64S.l0 k (up n0 m) (n0 + i) (i : Int) = some (n0 + m) := by
  induction d with
  | zero =>
    intro k i h1 hk
    obtain ⟨k, rfl⟩ : ∃ m, k = m + 1 := ⟨k - 1, by omega⟩
    simp only [laws_heldInt64S.l0]
    rw [if_neg (by rw [up_len]; omega)]
    congr 2; omega
  | succ d ih =>
    intro k i h1 hk
    obtain ⟨k, rfl⟩ : ∃ m, k = m + 1 := ⟨k - 1, by omega⟩
    simp only [laws_heldInt64S.l0]
    have hw : wrap64 (n0 + i + 1) = n0 + ((i + 1 : Nat) : Int) := by rw [w64 (by omega) (by omega)]; omega
    rw [if_pos (by rw [up_len]; omega), if_pos (by omega), rd_lt _ _ (by rw [up_len]; omega), up_get _ _ _ (by omega), if_pos rfl, wn (by omega), hw]
    exact ih k (i + 1) (by omega) (by omega)
theorem held_up (m : Nat) (hm : m ≤ 2000000) (n : Int) (h0 : 0 ≤ n) (h1 : n ≤ 100000000) : ∃ K, ∀ k, K ≤ k → laws_heldInt64S.f k (up n m) n = some (n + m) := by
  refine ⟨m + 2, fun k hk => ?_⟩
  unfold laws_heldInt64S.f
  have := held_loop m n (by omega) h0 (by omega) m k 0 (by omega) (by omega)
  simpa using this
end Go.Proofs.Ytiffnigjblbakaa.H
namespace Go.Proofs.Ytiffnigjblbakaa.Num
open Go.RowKit
def su (f : Nat → Int) : Nat → Int
  | 0 => 0
  | n + 1 => su f n + f n
theorem su_zero {f : Nat → Int} : ∀ {n : Nat}, (∀ i, i < n → f i = 0) → su f n = 0
  | 0, _ => rfl
  | n + 1, h => by rw [su, su_zero (n := n) (fun i hi => h i (by omega)), h n (by omega)]; rfl
theorem su_split (f : Nat → Int) (m : Nat) : ∀ n, su f (m + n) = su f m + su (fun i => f (m + i)) n
  | 0 => by simp [su]
  | n + 1 => by rw [← Nat.add_assoc, su, su_split f m n, su]; omega
theorem su_ext {f : Nat → Int} {m n : Nat} (h : m ≤ n) (hz : ∀ i, m ≤ i → i < n → f i = 0) : su f n = su f m := by
  obtain ⟨d, rfl⟩ : ∃ d, n = m + d := ⟨n - m, by omega⟩
  rw [su_split, su_zero (n := d) (fun i hi => hz _ (by omega) (by omega))]; omega
def cg (p a b : Int) : Prop := p ∣ a - b
theorem cg.refl {p : Int} (a : Int) : cg p a a := ⟨0, by omega⟩
theorem cg.of_eq {p a b : Int} (h : a = b) : cg p a b := h ▸ cg.refl a
theorem cg.symm {p a b : Int} : cg p a b → cg p b a := fun ⟨k, h⟩ => ⟨-k, by rw [Int.mul_neg, ← h]; omega⟩
theorem cg.trans {p a b c : Int} : cg p a b → cg p b c → cg p a c := fun ⟨k, h⟩ ⟨m, h'⟩ => ⟨k + m, by rw [Int.mul_add, ← h, ← h']; omega⟩
theorem cg.add {p a b c d : Int} : cg p a b → cg p c d → cg p (a + c) (b + d) := fun ⟨k, h⟩ ⟨m, h'⟩ => ⟨k + m, by rw [Int.mul_add, ← h, ← h']; omega⟩
theorem cg.neg {p a b : Int} : cg p a b → cg p (-a) (-b) := fun ⟨k, h⟩ => ⟨-k, by rw [Int.mul_neg, ← h]; omega⟩
theorem cg.mul {p a b c d : Int} : cg p a b → cg p c d → cg p (a * c) (b * d) := fun ⟨k, h⟩ ⟨m, h'⟩ => ⟨k * c + b * m, by
  have e1 : a = b + p * k := by omega
  have e2 : c = d + p * m := by omega
  rw [e1, e2]; grind⟩
theorem cg.mod (p a : Int) : cg p (a % p) a := ⟨-(a / p), by have := Int.mul_ediv_add_emod a p; rw [Int.mul_neg]; omega⟩
theorem cg.emod {p a b : Int} (h : cg p a b) : a % p = b % p := by
  obtain ⟨k, h⟩ := h
  rw [show a = b + p * k by omega, Int.add_mul_emod_self_left]
theorem cg.of_emod {p a b : Int} (h : a % p = b % p) : cg p a b := (cg.mod p a).symm.trans (h ▸ cg.mod p b)
theorem cg.pow {p a b : Int} (h : cg p a b) : ∀ n : Nat, cg p (a ^ n) (b ^ n)
  | 0 => by rw [Int.pow_zero, Int.pow_zero]; exact cg.refl 1
  | n + 1 => by rw [Int.pow_succ, Int.pow_succ]; exact (cg.pow h n).mul h
/-- x to the p - 2 is an inverse -/
theorem inv_cg {p x : Int} (hp : IsP p) (hx : x % p ≠ 0) : cg p (x * (x ^ (p - 2).toNat % p)) 1 := by
  have h2 := hp.1
  obtain ⟨n, hn⟩ : ∃ n : Nat, p = n := ⟨p.toNat, by omega⟩
  subst hn
  have hpr : Pr n := by simpa using hp.2.2
  obtain ⟨a, ha⟩ : ∃ a : Nat, x % (n : Int) = a := ⟨(x % (n : Int)).toNat, by have := emod_bd (x := x) (p := n) (by omega); omega⟩
  have hb := emod_bd (x := x) (p := (n : Int)) (by omega)
  have hnd : ¬ n ∣ a := fun h => by have := Nat.le_of_dvd (by omega) h; omega
  have hf := hpr.fermat1 hnd
  have h1 : cg n ((a : Int) ^ (n - 1)) 1 := by
    refine cg.of_emod ?_
    have : ((a ^ (n - 1) % n : Nat) : Int) = 1 := by rw [hf]; rfl
    rw [Int.natCast_emod, Int.natCast_pow] at this
    rw [this, Int.emod_eq_of_lt (by omega) (by omega)]
  have hxa : cg n x a := ha ▸ (cg.mod n x).symm
  refine ((cg.refl x).mul (cg.mod _ _)).trans ?_
  have e : x * x ^ ((n : Int) - 2).toNat = x ^ (n - 1) := by
    rw [Int.mul_comm, ← Int.pow_succ]; congr 1; omega
  rw [e]
  exact (hxa.pow _).trans h1
end Go.Proofs.Ytiffnigjblbakaa.Num
namespace Go.Proofs.Ytiffnigjblbakaa.H
open Go.RowKit Go.Proofs.YtiffnigjblbakaaW.PrintWords Go.Proofs.YtiffnigjblbakaaW.PrintLast Go.Proofs.YtiffnigjblbakaaW.PrintMore Go.Proofs.Ytiffnigjblbakaa.Num
theorem spec_prime (p : Int) : Ev (fun k => spec_l01Prime.f k p) (primeB p) := by
  refine ⟨200, fun k hk => ?_⟩
  unfold spec_l01Prime.f spec_l01In.f
  by_cases h1 : p ≥ 2
  · by_cases h2 : p ≤ 10007
    · obtain ⟨b, hb, hiff⟩ := prime_loop spec_l01Prime.l0 p h1 h2 (fun k i => rfl) 102 k 2 (by omega) (by omega) (by omega) (by omega)
      simp only [if_pos h1, Option.bind_some, decide_eq_true h2, if_true, hb, primeB_loop h1 h2 hiff]
    · simp [if_pos h1, decide_eq_false h2, primeB_hi h2]
  · simp [if_neg h1, primeB_lo h1]
theorem impl_prime (p : Int) : Ev (fun k => impl_IsPrime.f k p) (primeB p) := by
  refine ⟨200, fun k hk => ?_⟩
  unfold impl_IsPrime.f impl_within.f
  by_cases h1 : 2 ≤ p
  · by_cases h2 : p ≤ 10007
    · obtain ⟨b, hb, hiff⟩ := prime_loop impl_IsPrime.l0 p h1 h2 (fun k i => rfl) 102 k 2 (by omega) (by omega) (by omega) (by omega)
      simp only [if_pos h1, Option.bind_some, decide_eq_true h2, if_true, hb, primeB_loop h1 h2 hiff]
    · simp [if_pos h1, decide_eq_false h2, primeB_hi h2]
  · simp [if_neg h1, primeB_lo h1]
theorem spec_mod {p x : Int} (hp : 0 < p) (hp2 : p ≤ 1000000000) : spec_l01Mod.f p x = some (x % p) := by
  unfold spec_l01Mod.f; rw [if_neg (by omega), md hp hp2]
theorem impl_mod {p x : Int} (hp : 0 < p) (hp2 : p ≤ 1000000000) : impl_field_mod.f p x = some (x % p) := by
  unfold impl_field_mod.f; rw [if_neg (by omega), md hp hp2]
theorem impl_mul {p x y : Int} (hp : 0 < p) (hp2 : p ≤ 1000000000) (h1 : -9223372036854775808 ≤ x * y) (h2 : x * y ≤ 9223372036854775807) : impl_field_mul.f p x y = some (x * y % p) := by
  unfold impl_field_mul.f; rw [impl_mod hp hp2, w64 h1 h2]; rfl
theorem spec_power {p x e : Int} (hp : 2 ≤ p) (hp2 : p ≤ 10007) (e0 : 0 ≤ e) (e1 : e ≤ 1000000000) : Ev (fun k => spec_l01Power.f k p x e) (x ^ e.toNat % p) := by
  refine ⟨e.toNat + 2, fun k hk => ?_⟩
  have hb := emod_bd (x := x) (p := p) (by omega)
  simp only [spec_l01Power.f, spec_mod (show 0 < p by omega) (show p ≤ 1000000000 by omega), Option.bind_some]
  rw [pow_loop spec_l01Power.l0 (fun p out => some (Int.tmod out p)) (fun y => Int.tmod y p) p hp (by omega) (fun y hy => tmod_nn hy) (fun k e out x => by
      simp only [spec_l01Power.l0, if_neg (show ¬ p = 0 by omega)]) (e.toNat + 1) k e 1 (x % p) (by omega) (by omega) e0 e1 (by omega) (by omega) hb.1 hb.2]
  rw [Int.one_mul, pow_emod, tmod_nn (emod_bd (by omega)).1, Int.emod_emod]
theorem impl_power {p x e : Int} (hp : 2 ≤ p) (hp2 : p ≤ 10007) (x0 : 0 ≤ x) (x1 : x < p) (e0 : 0 ≤ e) (e1 : e ≤ 1000000000) : Ev (fun k => impl_field_power.f k p x e) (x ^ e.toNat % p) := by
  refine ⟨e.toNat + 2, fun k hk => ?_⟩
  simp only [impl_field_power.f, impl_mod (show 0 < p by omega) (show p ≤ 1000000000 by omega), Option.bind_some]
  rw [Int.emod_eq_of_lt (a := 1) (by omega) (by omega)]
  rw [pow_loop (fun k p e out x => impl_field_power.l0 k p x e out) (fun p out => some out) (fun y => y % p) p hp (by omega) (fun y hy => rfl) (fun k e out x => by
      simp only [impl_field_power.l0, impl_field_mul.f, impl_mod (show 0 < p by omega) (show p ≤ 1000000000 by omega), Option.bind_some]) (e.toNat + 1) k e 1 x (by omega) (by omega) e0 e1 (by omega) (by omega) x0 x1]
  rw [Int.one_mul]
theorem spec_inverse {p x : Int} (hp : 2 ≤ p) (hp2 : p ≤ 10007) : Ev (fun k => spec_l01Inverse.f k p x) (x ^ (p - 2).toNat % p) := by
  obtain ⟨K, h⟩ := spec_power (x := x) (e := p - 2) hp hp2 (by omega) (by omega)
  refine ⟨K, fun k hk => ?_⟩
  have hw : wrap64 (p - 2) = p - 2 := w64 (by omega) (by omega)
  have e := h k hk
  simp only at e
  simp only [spec_l01Inverse.f, hw, e, Option.bind_some]
theorem impl_inverse {p x : Int} (hp : 2 ≤ p) (hp2 : p ≤ 10007) (x0 : 0 ≤ x) (x1 : x < p) : Ev (fun k => impl_field_inverse.f k p x) (x ^ (p - 2).toNat % p) := by
  obtain ⟨K, h⟩ := impl_power (x := x) (e := p - 2) hp hp2 x0 x1 (by omega) (by omega)
  refine ⟨K, fun k hk => ?_⟩
  have hw : wrap64 (p - 2) = p - 2 := w64 (by omega) (by omega)
  have e := h k hk
  simp only at e
  simp only [impl_field_inverse.f, hw, e, Option.bind_some]
theorem hasB_iff {p x : Int} : hasB p x = true ↔ 0 ≤ x ∧ x < p := by unfold hasB; simp
theorem poly_loop (p : Int) (l : List Int) (hl : l.length ≤ 1000000000) (d : Nat) : ∀ (k i : Nat), i + d = l.length → d < k → spec_l01Poly.l0 k p l (i : Int) = some ((l.drop i).all (hasB p) && (decide (l.length ≤ 25) && (decide (l.length = 0) || decide (rd l ((l.length : Int) - 1) ≠ 0)))) := by
  induction d with
  | zero =>
    intro k i h1 hk
    obtain ⟨k, rfl⟩ : ∃ m, k = m + 1 := ⟨k - 1, by omega⟩
    simp only [spec_l01Poly.l0]
    rw [if_neg (by omega), List.drop_of_length_le (by omega)]
    by_cases h25 : l.length ≤ 25
    · rw [if_pos (by omega)]
      by_cases h0 : l.length = 0
      · rw [if_pos (by omega)]; simp [h0]
      · have hw : wrap64 ((l.length : Int) - 1) = (l.length : Int) - 1 := w64 (by omega) (by omega)
        rw [if_neg (by omega), hw, if_pos (by omega), if_pos (by omega)]
        simp [h25, h0, bne]
        rfl
    · rw [if_neg (by omega)]; simp [h25]
  | succ d ih =>
    intro k i h1 hk
    obtain ⟨k, rfl⟩ : ∃ m, k = m + 1 := ⟨k - 1, by omega⟩
    simp only [spec_l01Poly.l0]
    rw [if_pos (by omega), if_pos (by omega), rd_lt l i (by omega), wn (by omega), ih k (i + 1) (by omega) (by omega), List.drop_eq_getElem_cons (show i < l.length by omega), List.all_cons]
    by_cases h0 : l[i] < 0
    · rw [if_pos h0]; simp [hasB]; omega
    · rw [if_neg h0]
      by_cases hp : l[i] ≥ p
      · rw [if_pos hp]; simp [hasB]; omega
      · rw [if_neg hp]
        have : hasB p l[i] = true := hasB_iff.2 (by omega)
        rw [this, Bool.true_and]
theorem spec_poly (p : Int) (l : List Int) (hl : l.length ≤ 1000000000) : Ev (fun k => spec_l01Poly.f k p l) (polyB p l) := by
  refine ⟨l.length + 2, fun k hk => ?_⟩
  unfold spec_l01Poly.f
  have h := poly_loop p l hl l.length k 0 (by omega) (by omega)
  simp only [Int.natCast_zero, List.drop_zero] at h
  show spec_l01Poly.l0 k p l 0 = _
  rw [h]
  unfold polyB
  cases decide (l.length ≤ 25) <;> simp [Bool.and_comm]
/-- what it says of a list that it is a polynomial -/
structure Po (p : Int) (l : List Int) : Prop where
  len : l.length ≤ 25
  el : ∀ x ∈ l, 0 ≤ x ∧ x < p
  last : l.length = 0 ∨ rd l ((l.length : Int) - 1) ≠ 0
theorem polyB_iff {p : Int} {l : List Int} : polyB p l = true ↔ Po p l := by
  unfold polyB
  simp only [Bool.and_eq_true, Bool.or_eq_true, decide_eq_true_eq, List.all_eq_true, hasB_iff]
  exact ⟨fun ⟨⟨a, b⟩, c⟩ => ⟨a, b, c⟩, fun h => ⟨⟨h.len, h.el⟩, h.last⟩⟩
/-- the code of a prime and polynomials -/
noncomputable def codeL (p : Int) (b : Bool) (ls : List (List Int)) : Int := if ls.all (polyB p) = true then (if (primeB p && b) = true then 0 else 2) else 1
theorem code_loop (p : Int) (ls : List (List Int)) (hl : ls.length ≤ 1000000000) (hls : ∀ l ∈ ls, l.length ≤ 1000000000) (K : Nat) (hK : ∀ l ∈ ls, ∀ k, K ≤ k → spec_l01Poly.f k p l = some (polyB p l)) (hP : ∀ k, K ≤ k → spec_l01Prime.f k p = some (primeB p)) (d : Nat) :
    ∀ (k i : Nat), i + d = ls.length → K + d < k → spec_l01Code.l0 k p ls (i : Int) = some (codeL p true (ls.drop i)) := by
  induction d with
  | zero =>
    intro k i h1 hk
    obtain ⟨k, rfl⟩ : ∃ m, k = m + 1 := ⟨k - 1, by omega⟩
    simp only [spec_l01Code.l0]
    rw [if_neg (by omega), List.drop_of_length_le (by omega), hP k (by omega)]
    simp [codeL]
    cases primeB p <;> simp
  | succ d ih =>
    intro k i h1 hk
    obtain ⟨k, rfl⟩ : ∃ m, k = m + 1 := ⟨k - 1, by omega⟩
    simp only [spec_l01Code.l0]
    have hrd : rd_L1 ls (i : Int) = ls[i]'(by omega) := by
      simp [rd_L1, List.getD_eq_getElem?_getD, show i < ls.length by omega]
    rw [if_pos (by omega), if_pos (by omega), hrd, hK _ (List.getElem_mem _) k (by omega), Option.bind_some, wn (by omega), ih k (i + 1) (by omega) (by omega), List.drop_eq_getElem_cons (show i < ls.length by omega)]
    cases hq : polyB p (ls[i]'(by omega)) with
    | true => simp only [codeL, List.all_cons, hq, Bool.true_and, if_true]
    | false => simp [codeL, List.all_cons, hq, -List.getElem_cons_drop]
theorem spec_code (p : Int) (ls : List (List Int)) (hl : ls.length ≤ 1000000) (hls : ∀ l ∈ ls, l.length ≤ 1000000000) : Ev (fun k => spec_l01Code.f k p ls) (codeL p true ls) := by
  obtain ⟨K1, h1⟩ : ∃ K, ∀ l ∈ ls, ∀ k, K ≤ k → spec_l01Poly.f k p l = some (polyB p l) := by
    clear hl
    induction ls with
    | nil => exact ⟨0, fun l hl => by simp at hl⟩
    | cons a ls ih =>
      obtain ⟨K, h⟩ := ih (fun l hl => hls l (by simp [hl]))
      obtain ⟨K', h'⟩ := spec_poly p a (hls a (by simp))
      refine ⟨K + K', fun l hl k hk => ?_⟩
      rcases List.mem_cons.1 hl with rfl | hl
      · exact h' k (by omega)
      · exact h l hl k (by omega)
  obtain ⟨K2, h2⟩ := spec_prime p
  refine ⟨K1 + K2 + ls.length + 2, fun k hk => ?_⟩
  unfold spec_l01Code.f
  exact code_loop p ls (by omega) hls (K1 + K2) (fun l hl k hk => h1 l hl k (by omega)) (fun k hk => h2 k (by omega)) ls.length k 0 (by omega) (by omega)
theorem impl_code1 (p : Int) (b : Bool) (l : List Int) : Ev (fun k => impl_polyCode_1.f k p b l) (codeL p b [l]) := by
  obtain ⟨K, h⟩ := impl_prime p
  refine ⟨K, fun k hk => ?_⟩
  have e := h k hk
  simp only at e
  simp only [impl_polyCode_1.f, codeL, e, Option.bind_some, List.all_cons, List.all_nil, Bool.and_true]
  split <;> rfl
theorem codeL_0 {p : Int} {b : Bool} {ls : List (List Int)} (h : codeL p b ls = 0) : IsP p ∧ b = true ∧ ∀ l ∈ ls, Po p l := by
  unfold codeL at h
  split at h
  · split at h
    · rename_i h1 h2
      simp only [Bool.and_eq_true] at h2
      exact ⟨primeB_iff.1 h2.1, h2.2, fun l hl => polyB_iff.1 (List.all_eq_true.1 h1 l hl)⟩
    · cases h
  · cases h
def tlen (l : List Int) : Nat → Nat
  | 0 => 0
  | n + 1 => if l.getD n 0 = 0 then tlen l n else n + 1
def trimL (l : List Int) : List Int := l.take (tlen l l.length)
theorem tlen_le (l : List Int) : ∀ n, tlen l n ≤ n
  | 0 => Nat.le_refl _
  | n + 1 => by unfold tlen; split; (have := tlen_le l n; omega); omega
theorem tlen_take (l : List Int) (m : Nat) : ∀ n, n ≤ m → tlen (l.take m) n = tlen l n
  | 0, _ => rfl
  | n + 1, h => by
    have e : (l.take m).getD n 0 = l.getD n 0 := by simp [List.getD_eq_getElem?_getD, show n < m by omega]
    unfold tlen
    rw [e, tlen_take l m n (by omega)]
theorem implTrim_loop : ∀ (n k : Nat) (l : List Int), l.length = n → n ≤ 1000000000 → n < k → impl_trimmed.l0 k l = some (trimL l)
  | 0, k, l, h, hl, hk => by
    obtain ⟨k, rfl⟩ : ∃ m, k = m + 1 := ⟨k - 1, by omega⟩
    simp only [impl_trimmed.l0]
    rw [if_neg (by omega)]
    simp [trimL, h, List.eq_nil_of_length_eq_zero h]
  | n + 1, k, l, h, hl, hk => by
    obtain ⟨k, rfl⟩ : ∃ m, k = m + 1 := ⟨k - 1, by omega⟩
    simp only [impl_trimmed.l0]
    have hw : wrap64 ((l.length : Int) - 1) = (n : Int) := by rw [w64 (by omega) (by omega)]; omega
    rw [if_pos (by omega), hw, if_pos (by omega), if_pos (by omega), rd_nat, Int.toNat_natCast]
    by_cases h0 : l.getD n 0 = 0
    · rw [if_pos h0, if_pos (by omega), implTrim_loop n k (l.take n) (by simp; omega) (by omega) (by omega)]
      simp only [trimL, h, tlen, if_pos h0]
      rw [show (l.take n).length = n by simp [h], tlen_take l n n (Nat.le_refl _), List.take_take]
      congr 2
      have := tlen_le l n
      omega
    · rw [if_neg h0]
      simp only [trimL, h, tlen, if_neg h0]
      rw [List.take_of_length_le (by omega)]
theorem impl_trim (l : List Int) (hl : l.length ≤ 1000000000) : Ev (fun k => impl_trimmed.f k l) (trimL l) :=
  ⟨l.length + 2, fun k hk => implTrim_loop l.length k l rfl hl (by omega)⟩
theorem trimL_len (l : List Int) : (trimL l).length ≤ l.length := by unfold trimL; rw [List.length_take]; omega
def InR (p : Int) (l : List Int) : Prop := ∀ x ∈ l, 0 ≤ x ∧ x < p
theorem InR.get {p : Int} {l : List Int} (h : InR p l) (hp : 0 < p) (i : Nat) : 0 ≤ l.getD i 0 ∧ l.getD i 0 < p := by
  rcases Nat.lt_or_ge i l.length with hi | hi
  · rw [List.getD_eq_getElem?_getD, List.getElem?_eq_getElem hi]; exact h _ (List.getElem_mem hi)
  · rw [List.getD_eq_getElem?_getD, List.getElem?_eq_none hi]; exact ⟨Int.le_refl _, hp⟩
theorem InR.set {p : Int} {l : List Int} (h : InR p l) (i : Nat) {x : Int} (hx : 0 ≤ x ∧ x < p) : InR p (l.set i x) := by
  intro y hy
  rcases List.mem_or_eq_of_mem_set hy with h' | h'
  · exact h y h'
  · rw [h']; exact hx
theorem InR.take {p : Int} {l : List Int} (h : InR p l) (n : Nat) : InR p (l.take n) := fun x hx => h x (List.mem_of_mem_take hx)
theorem InR.trim {p : Int} {l : List Int} (h : InR p l) : InR p (trimL l) := h.take _
theorem InR.zeros {p : Int} (hp : 0 < p) (n : Nat) : InR p (List.replicate n 0) := fun x hx => by
  have := (List.mem_replicate.1 hx).2; subst this; exact ⟨Int.le_refl _, hp⟩
theorem InR.append {p : Int} {l l' : List Int} (h : InR p l) (h' : InR p l') : InR p (l ++ l') := fun x hx => by
  rcases List.mem_append.1 hx with hx | hx
  · exact h x hx
  · exact h' x hx
theorem InR.drop {p : Int} {l : List Int} (h : InR p l) (n : Nat) : InR p (l.drop n) := fun x hx => h x (List.mem_of_mem_drop hx)
theorem Po.inR {p : Int} {l : List Int} (h : Po p l) : InR p l := h.el
theorem InR.nil {p : Int} : InR p [] := fun x hx => by simp at hx
theorem InR.one {p x : Int} (h : 0 ≤ x ∧ x < p) : InR p [x] := fun y hy => by rw [List.mem_singleton.1 hy]; exact h
theorem mul_bd2 {p x y : Int} (hp : p ≤ 10007) (hx : 0 ≤ x ∧ x < p) (hy : 0 ≤ y ∧ y ≤ 100000) : 0 ≤ x * y ∧ x * y ≤ 1000700000 := by
  have := mul_bd (a := 10007) (b := 100000) hx.1 (by omega) hy.1 hy.2; omega
/-- from place i on, d numbers of g, each times c, are added -/
def ad (p c : Int) (g : List Int) : List Int → Nat → Nat → List Int
  | acc, _, 0 => acc
  | acc, i, d + 1 => ad p c g (acc.set i ((acc.getD i 0 + c * g.getD i 0) % p)) (i + 1) d
def pad (f : List Int) (n : Nat) : List Int := f ++ List.replicate (n - f.length) 0
def addL (p : Int) (f g : List Int) (c : Int) : List Int := trimL (ad p c g (pad f (max f.length g.length)) 0 g.length)
theorem ad_len (p c : Int) (g : List Int) : ∀ d i acc, (ad p c g acc i d).length = acc.length
  | 0, _, _ => rfl
  | d + 1, i, acc => by simp [ad, ad_len p c g d]
theorem ad_inR {p c : Int} (hp : 0 < p) (g : List Int) : ∀ d i acc, InR p acc → InR p (ad p c g acc i d)
  | 0, _, _, h => h
  | d + 1, i, acc, h => ad_inR hp g d (i + 1) _ (h.set i (emod_bd hp))
theorem pad_len (f : List Int) (n : Nat) (h : f.length ≤ n) : (pad f n).length = n := by simp [pad]; omega
theorem pad_inR {p : Int} (hp : 0 < p) {f : List Int} (h : InR p f) (n : Nat) : InR p (pad f n) := h.append (InR.zeros hp _)
theorem addL_len (p : Int) (f g : List Int) (c : Int) : (addL p f g c).length ≤ max f.length g.length := by
  have := trimL_len (ad p c g (pad f (max f.length g.length)) 0 g.length)
  rw [ad_len, pad_len _ _ (Nat.le_max_left _ _)] at this; exact this
theorem addL_inR {p : Int} (hp : 0 < p) {f : List Int} (h : InR p f) (g : List Int) (c : Int) : InR p (addL p f g c) := (ad_inR hp g _ _ _ (pad_inR hp h _)).trim
theorem cpInto_pad (f : List Int) (n : Nat) (h : f.length ≤ n) : cpInto (List.replicate n 0) f = pad f n := by
  simp [cpInto, pad]
theorem impl_add {p c : Int} {f g : List Int} (hp : 2 ≤ p) (hp2 : p ≤ 10007) (hf : f.length ≤ 1000) (hg : g.length ≤ 1000) (rf : InR p f) (rg : InR p g) (c0 : 0 ≤ c) (c1 : c ≤ 100000) :
    Ev (fun k => impl_field_add.f k p f g c) (addL p f g c) := by
  have loop2 : ∀ d i (acc : List Int), i + d = g.length → g.length ≤ acc.length → acc.length ≤ 1000 → InR p acc → Ev (fun k => impl_field_add.l0 k p c acc g (g.length : Int) (i : Int)) (trimL (ad p c g acc i d)) := by
    intro d
    induction d with
    | zero =>
      intro i acc h1 h2 h3 h4
      obtain ⟨K, h⟩ := impl_trim acc (by omega)
      refine ⟨K + 1, fun k hk => ?_⟩
      obtain ⟨k, rfl⟩ : ∃ m, k = m + 1 := ⟨k - 1, by omega⟩
      have e := h k (by omega)
      simp only at e
      simp only [impl_field_add.l0]
      rw [if_neg (by omega), e]
      simp [ad]
    | succ d ih =>
      intro i acc h1 h2 h3 h4
      obtain ⟨K, h⟩ := ih (i + 1) (acc.set i ((acc.getD i 0 + c * g.getD i 0) % p)) (by omega) (by simpa using h2) (by simpa using h3) (h4.set i (emod_bd (by omega)))
      refine ⟨K + 1, fun k hk => ?_⟩
      obtain ⟨k, rfl⟩ : ∃ m, k = m + 1 := ⟨k - 1, by omega⟩
      have e := h k (by omega)
      simp only at e
      have hb := mul_bd2 hp2 (rg.get (by omega) i) (y := c) (by omega)
      rw [Int.mul_comm] at hb
      have ha := h4.get (by omega) i
      simp only [impl_field_add.l0]
      rw [if_pos (by omega), if_pos (by omega), if_pos (by omega), if_pos (by omega), rd_nat, rd_nat, w64 (x := c * g.getD i 0) (by omega) (by omega), w64 (by omega) (by omega), impl_mod (by omega) (by omega), Option.bind_some, wn (by omega), Int.toNat_natCast, e]
      simp [ad]
  unfold impl_field_add.f
  by_cases hlt : (f.length : Int) < (g.length : Int)
  · obtain ⟨K, h⟩ := loop2 g.length 0 (pad f g.length) (by omega) (by rw [pad_len _ _ (by omega)]; omega) (by rw [pad_len _ _ (by omega)]; omega) (pad_inR (by omega) rf _)
    refine ⟨K, fun k hk => ?_⟩
    have e := h k hk
    simp only [Int.natCast_zero] at e
    simp only
    rw [if_pos hlt, if_pos (by omega), if_pos (by omega), Int.toNat_natCast, cpInto_pad _ _ (by omega), e, addL, Nat.max_eq_right (by omega)]
  · obtain ⟨K, h⟩ := loop2 g.length 0 (pad f f.length) (by omega) (by rw [pad_len _ _ (by omega)]; omega) (by rw [pad_len _ _ (by omega)]; omega) (pad_inR (by omega) rf _)
    refine ⟨K, fun k hk => ?_⟩
    have e := h k hk
    simp only [Int.natCast_zero] at e
    simp only
    rw [if_neg hlt, if_pos (by omega), if_pos (by omega), Int.toNat_natCast, cpInto_pad _ _ (by omega), e, addL, Nat.max_eq_left (by omega)]
theorem impl_times {p c : Int} {f : List Int} (hp : 2 ≤ p) (hp2 : p ≤ 10007) (hf : f.length ≤ 1000) (rf : InR p f) (c0 : 0 ≤ c) (c1 : c ≤ 100000) : Ev (fun k => impl_field_times.f k p f c) (addL p [] f c) := by
  obtain ⟨K, h⟩ := impl_add (f := []) (g := f) hp hp2 (by simp) hf InR.nil rf c0 c1
  refine ⟨K, fun k hk => ?_⟩
  have e := h k hk
  simp only at e
  simp only [impl_field_times.f, e, Option.bind_some]
/-- x to the p - 2 -/
def inv (p x : Int) : Int := x ^ (p - 2).toNat % p
theorem inv_bd {p : Int} (hp : 0 < p) (x : Int) : 0 ≤ inv p x ∧ inv p x < p := emod_bd hp
def monicL (p : Int) (f : List Int) : List Int := addL p [] f (inv p (rd f ((f.length : Int) - 1)))
theorem impl_monic {p : Int} {f : List Int} (hp : 2 ≤ p) (hp2 : p ≤ 10007) (hf : f.length ≤ 1000) (rf : InR p f) (h0 : f.length ≠ 0) : Ev (fun k => impl_field_monic.f k p f) (monicL p f) := by
  have hb := inv_bd (p := p) (by omega) (rd f ((f.length : Int) - 1))
  have hr : 0 ≤ rd f ((f.length : Int) - 1) ∧ rd f ((f.length : Int) - 1) < p := by
    have := rf.get (by omega) (f.length - 1)
    rw [← rd_nat] at this
    rwa [show ((f.length - 1 : Nat) : Int) = (f.length : Int) - 1 by omega] at this
  obtain ⟨K1, h1⟩ := impl_inverse (x := rd f ((f.length : Int) - 1)) hp hp2 hr.1 hr.2
  obtain ⟨K2, h2⟩ := impl_times (c := inv p (rd f ((f.length : Int) - 1))) (f := f) hp hp2 hf rf (by omega) (by omega)
  have hw : wrap64 ((f.length : Int) - 1) = (f.length : Int) - 1 := w64 (by omega) (by omega)
  refine ⟨K1 + K2, fun k hk => ?_⟩
  have e1 := h1 k (by omega)
  have e2 := h2 k (by omega)
  simp only at e1 e2
  simp only [impl_field_monic.f]
  rw [hw, if_pos (by omega), if_pos (by omega), e1, Option.bind_some]
  exact (congrArg (fun z => z.bind fun t => some t) e2).trans rfl
theorem code_cases (p : Int) (b : Bool) (ls : List (List Int)) :
    (codeL p true ls ≠ 0 ∧ codeL p b ls = codeL p true ls) ∨ (codeL p true ls = 0 ∧ b = false ∧ codeL p b ls = 2 ∧ IsP p) ∨ (codeL p true ls = 0 ∧ b = true ∧ codeL p b ls = 0 ∧ IsP p ∧ ∀ l ∈ ls, Po p l) := by
  by_cases h : codeL p true ls = 0
  · obtain ⟨hp, _, hq⟩ := codeL_0 h
    cases b with
    | true => exact .inr (.inr ⟨h, rfl, h, hp, hq⟩)
    | false =>
      refine .inr (.inl ⟨h, rfl, ?_, hp⟩)
      have hall : ls.all (polyB p) = true := List.all_eq_true.2 fun l hl => polyB_iff.2 (hq l hl)
      simp [codeL, hall]
  · refine .inl ⟨h, ?_⟩
    unfold codeL at h ⊢
    cases ha : ls.all (polyB p) with
    | false => simp
    | true => rw [ha] at h; cases hp : primeB p <;> simp [hp] at h ⊢
theorem in_any (x a b : Int) : spec_l01In.f x a b = some (decide (a ≤ x) && decide (x ≤ b)) := by
  unfold spec_l01In.f; by_cases h : x ≥ a
  · rw [if_pos h, decide_eq_true h, Bool.true_and]
  · rw [if_neg h, decide_eq_false h, Bool.false_and]
theorem in_within (x a b : Int) : spec_l01In.f x a b = some (withinB x a b) := in_any x _ _
theorem _root_.Go.Proofs.Ytiffnigjblbakaa.Num.IsP.p2 {p : Int} (h : IsP p) : 2 ≤ p := h.1
theorem _root_.Go.Proofs.Ytiffnigjblbakaa.Num.IsP.pm {p : Int} (h : IsP p) : p ≤ 10007 := h.2.1
theorem _root_.Go.Proofs.Ytiffnigjblbakaa.Num.IsP.p0 {p : Int} (h : IsP p) : 0 < p := by have := h.1; omega
/-- the numbers of a list, 0 behind its end -/
def co (l : List Int) (i : Nat) : Int := l.getD i 0
theorem co_ge {l : List Int} {i : Nat} (h : l.length ≤ i) : co l i = 0 := by simp [co, List.getD_eq_getElem?_getD, h]
theorem co_set (l : List Int) (i j : Nat) (x : Int) (h : i < l.length) : co (l.set i x) j = if j = i then x else co l j := by
  unfold co
  simp only [List.getD_eq_getElem?_getD]
  by_cases e : j = i
  · subst e; rw [List.getElem?_set_self h, if_pos rfl]; rfl
  · rw [List.getElem?_set_ne (Ne.symm e), if_neg e]
theorem co_take {l : List Int} {n i : Nat} : co (l.take n) i = if i < n then co l i else 0 := by
  unfold co
  simp only [List.getD_eq_getElem?_getD, List.getElem?_take]
  split <;> rfl
theorem InR.co {p : Int} {l : List Int} (h : InR p l) (hp : 0 < p) (i : Nat) : 0 ≤ co l i ∧ co l i < p := h.get hp i
/-- behind the trimmed part there are noughts alone -/
theorem tlen_zero (l : List Int) : ∀ n i, tlen l n ≤ i → i < n → l.getD i 0 = 0
  | 0, i, _, h => by omega
  | n + 1, i, h1, h2 => by
    unfold tlen at h1
    split at h1
    · rename_i h0
      by_cases e : i = n
      · subst e; exact h0
      · exact tlen_zero l n i h1 (by omega)
    · omega
theorem tlen_last (l : List Int) : ∀ n, tlen l n = 0 ∨ l.getD (tlen l n - 1) 0 ≠ 0
  | 0 => .inl rfl
  | n + 1 => by
    unfold tlen
    split
    · exact tlen_last l n
    · right; simpa using ‹_›
theorem trimL_length (l : List Int) : (trimL l).length = tlen l l.length := by
  unfold trimL; rw [List.length_take, Nat.min_eq_left (tlen_le _ _)]
theorem co_trim (l : List Int) (i : Nat) : co (trimL l) i = co l i := by
  unfold trimL
  rw [co_take]
  split
  · rfl
  · rename_i h
    by_cases hi : i < l.length
    · exact (tlen_zero l l.length i (by omega) hi).symm
    · exact (co_ge (by omega)).symm
/-- a list without noughts at its end -/
def Nz (l : List Int) : Prop := l.length = 0 ∨ co l (l.length - 1) ≠ 0
theorem Nz.trim (l : List Int) : Nz (trimL l) := by
  unfold Nz
  rw [co_trim, trimL_length]
  exact tlen_last l l.length
theorem Po.nz {p : Int} {l : List Int} (h : Po p l) : Nz l := by
  rcases h.last with h0 | h0
  · exact .inl h0
  · by_cases hl : l.length = 0
    · exact .inl hl
    · right
      unfold co
      rwa [← rd_nat, show ((l.length - 1 : Nat) : Int) = (l.length : Int) - 1 by omega]
theorem Po.of {p : Int} {l : List Int} (hl : l.length ≤ 25) (hr : InR p l) (hz : Nz l) : Po p l := by
  refine ⟨hl, hr, ?_⟩
  rcases hz with h | h
  · exact .inl h
  · by_cases h0 : l.length = 0
    · exact .inl h0
    · right
      unfold co at h
      rwa [← rd_nat, show ((l.length - 1 : Nat) : Int) = (l.length : Int) - 1 by omega] at h
theorem Nz.top {p : Int} {l : List Int} (h : Nz l) (hr : InR p l) (hp : 0 < p) (h0 : 0 < l.length) : 0 < co l (l.length - 1) ∧ co l (l.length - 1) < p := by
  have h1 := hr.co hp (l.length - 1)
  rcases h with h2 | h2
  · omega
  · omega
theorem inv_one {p x : Int} (hp : IsP p) (hx : 0 < x ∧ x < p) : cg p (x * inv p x) 1 := inv_cg hp (by rw [Int.emod_eq_of_lt (by omega) hx.2]; omega)
theorem monicL_len (p : Int) (f : List Int) : (monicL p f).length ≤ f.length := by have := addL_len p [] f (inv p (rd f ((f.length : Int) - 1))); simpa [monicL] using this
theorem impl_deg (l : List Int) (h : l.length ≤ 1000000000000) : impl_degree.f l = some ((l.length : Int) - 1) := by
  simp (disch := omega) only [impl_degree.f, impl_length_int64.f, Option.bind_some, w64]
/-- the code with the test for 0 behind it -/
def fillL (c : Int) (ls : List (List Int)) : Int := if c = 0 then (if ls.all (fun l => decide (0 < l.length)) = true then 0 else 5) else c
theorem fill_loop (ls : List (List Int)) (hl : ls.length ≤ 1000000) : ∀ (d i : Nat), i + d = ls.length → Ev (fun k => spec_l06Code.l0 k ls (i : Int)) (if (ls.drop i).all (fun l => decide (0 < l.length)) = true then 0 else 5) := by
  intro d
  induction d with
  | zero => intro i h; refine Ev.succ ?_; simp (disch := omega) only [spec_l06Code.l0, if_neg, List.drop_of_length_le]; exact Ev.now _
  | succ d ih =>
    intro i h
    have hi := ih (i + 1) (by omega)
    have hrd : rd_L1 ls (i : Int) = ls[i]'(by omega) := by simp [rd_L1, List.getD_eq_getElem?_getD, show i < ls.length by omega]
    refine Ev.succ ?_
    rw [List.drop_eq_getElem_cons (show i < ls.length by omega)]
    simp (disch := omega) only [spec_l06Code.l0, if_pos, hrd, wp1, List.all_cons]
    by_cases h0 : (ls[i]'(by omega)).length = 0
    · have h1 : (((ls[i]'(by omega)).length : Nat) : Int) = 0 := by omega
      simp only [h1, if_true, h0, Nat.lt_irrefl, decide_false, Bool.false_and, Bool.false_eq_true, if_false]
      exact Ev.now _
    · have h1 : ¬ (((ls[i]'(by omega)).length : Nat) : Int) = 0 := by omega
      simp only [if_neg h1, decide_eq_true (show 0 < (ls[i]'(by omega)).length by omega), Bool.true_and]
      exact hi
theorem spec_code6 (p : Int) (ls : List (List Int)) (hl : ls.length ≤ 1000000) (hls : ∀ l ∈ ls, l.length ≤ 1000000000) : Ev (fun k => spec_l06Code.f k p ls) (fillL (codeL p true ls) ls) := by
  have h1 := spec_code p ls hl hls
  have h2 := fill_loop ls hl ls.length 0 (by omega)
  simp only [spec_l06Code.f, fillL]
  refine Ev.bind h1 ?_
  by_cases h : codeL p true ls = 0
  · simp only [h, if_true]; exact h2
  · simp only [if_neg h]; exact Ev.now _
theorem impl_fill1 (p : Int) (b : Bool) (l : List Int) : Ev (fun k => impl_filledCode_1.f k p b l) (fillL (codeL p b [l]) [l]) := by
  simp only [impl_filledCode_1.f]
  refine Ev.bind (impl_code1 p b l) ?_
  simp only [fillL, List.all_cons, List.all_nil, Bool.and_true]
  exact Ev.now _
theorem co_pad (f : List Int) (n t : Nat) : co (pad f n) t = co f t := by
  unfold pad co
  simp only [List.getD_eq_getElem?_getD]
  by_cases h : t < f.length
  · rw [List.getElem?_append_left h]
  · rw [List.getElem?_append_right (by omega), List.getElem?_eq_none (show f.length ≤ t by omega)]
    simp only [List.getElem?_replicate]
    split <;> rfl
theorem ad_get (p c : Int) (g : List Int) (t : Nat) : ∀ d i acc, i + d ≤ acc.length → co (ad p c g acc i d) t = if i ≤ t ∧ t < i + d then (co acc t + c * co g t) % p else co acc t
  | 0, i, acc, h => by rw [if_neg (by omega)]; rfl
  | d + 1, i, acc, h => by
    rw [ad, ad_get p c g t d (i + 1) _ (by simpa using by omega), co_set _ _ _ _ (by omega)]
    by_cases e : t = i
    · subst e
      rw [if_neg (by omega), if_pos rfl, if_pos (by omega)]
      rfl
    · rw [if_neg e]
      by_cases h2 : i + 1 ≤ t ∧ t < i + 1 + d
      · rw [if_pos h2, if_pos (by omega)]
      · rw [if_neg h2, if_neg (by omega)]
/-- number t of a sum -/
theorem co_addL {p : Int} (hp : 0 < p) {f : List Int} (hf : InR p f) (g : List Int) (c : Int) (t : Nat) : co (addL p f g c) t = (co f t + c * co g t) % p := by
  unfold addL
  rw [co_trim, ad_get _ _ _ _ _ _ _ (by rw [pad_len _ _ (Nat.le_max_left _ _)]; have := Nat.le_max_right f.length g.length; omega), co_pad]
  by_cases h : 0 ≤ t ∧ t < 0 + g.length
  · rw [if_pos h]
  · rw [if_neg h, co_ge (show g.length ≤ t by omega), Int.mul_zero, Int.add_zero, Int.emod_eq_of_lt (hf.co hp t).1 (hf.co hp t).2]
theorem addL_nz (p : Int) (f g : List Int) (c : Int) : Nz (addL p f g c) := Nz.trim _
theorem co_monic {p : Int} (hp : 0 < p) (f : List Int) (t : Nat) : co (monicL p f) t = (inv p (rd f ((f.length : Int) - 1)) * co f t) % p := by
  unfold monicL
  rw [co_addL hp InR.nil, co_ge (show ([] : List Int).length ≤ t by simp), Int.zero_add]
theorem rd_top (f : List Int) (h : 0 < f.length) : rd f ((f.length : Int) - 1) = co f (f.length - 1) := by
  rw [show (f.length : Int) - 1 = ((f.length - 1 : Nat) : Int) by omega, rd_nat]; rfl
theorem monic_po {p : Int} {f : List Int} (hp : IsP p) (pf : Po p f) (h0 : 0 < f.length) : Po p (monicL p f) ∧ (monicL p f).length = f.length ∧ co (monicL p f) (f.length - 1) = 1 := by
  have ht := pf.nz.top pf.inR hp.p0 h0
  have h1 : co (monicL p f) (f.length - 1) = 1 := by
    rw [co_monic hp.p0, rd_top f h0]
    have h := inv_one hp ht
    rw [Int.mul_comm] at h
    have := h.emod
    rwa [Int.emod_eq_of_lt (a := 1) (by omega) (by have := hp.p2; omega)] at this
  have hlen := monicL_len p f
  have hl2 : (monicL p f).length = f.length := by
    rcases Nat.lt_or_ge (monicL p f).length f.length with h | h
    · rw [co_ge (by omega)] at h1; omega
    · omega
  exact ⟨Po.of (by have := pf.len; omega) (addL_inR hp.p0 InR.nil _ _) (addL_nz _ _ _ _), hl2, h1⟩
/-- the numbers of the monic polynomial, from the greatest power on -/
def psA (p : Int) (f : List Int) (i : Nat) : Int := if i < f.length then co f (f.length - 1 - i) * inv p (co f (f.length - 1)) else 0
def psN (p : Int) (f out : List Int) (k : Nat) : Int := (-(su (fun j => psA p f (j + 1) * co out (k - j)) k + ((k + 1 : Nat) : Int) * psA p f (k + 1))) % p
def psL (p : Int) (f : List Int) : Nat → List Int
  | 0 => [((f.length - 1 : Nat) : Int) % p]
  | k + 1 => psL p f k ++ [psN p f (psL p f k) k]
theorem psL_len (p : Int) (f : List Int) : ∀ k, (psL p f k).length = k + 1
  | 0 => rfl
  | k + 1 => by simp [psL, psL_len p f k]
theorem psL_inR {p : Int} (hp : 0 < p) (f : List Int) : ∀ k, InR p (psL p f k)
  | 0 => InR.one (emod_bd hp)
  | k + 1 => (psL_inR hp f k).append (InR.one (emod_bd hp))
theorem psA_zero {p : Int} {f : List Int} {i : Nat} (h : f.length ≤ i) : psA p f i = 0 := if_neg (by omega)
theorem psA_one {p : Int} {f : List Int} {i : Nat} (h : i < f.length) : psA p f i = co f (f.length - 1 - i) * inv p (co f (f.length - 1)) := if_pos h
theorem su_psA_cut {p : Int} {f : List Int} (out : List Int) (K i : Nat) (h1 : f.length ≤ i + 1) (h2 : i ≤ K) : su (fun j => psA p f (j + 1) * co out (K - j)) K = su (fun j => psA p f (j + 1) * co out (K - j)) i :=
  su_ext h2 fun j hj _ => by rw [psA_zero (by omega), Int.zero_mul]
theorem spec_ps {p : Int} {f : List Int} (hp : IsP p) (pf : Po p f) {d : Nat} (hd : f.length = d + 1) {N : Nat} (hN : N ≤ 24) : ∀ r K, K + r = N →
    Ev (fun k => spec_PowerSums.l0 k p f (N : Int) (d : Int) (psL p f K) (inv p (co f d)) ((K + 1 : Nat) : Int)) (psL p f N, 0) := by
  have hp2 := hp.p2
  have hpm := hp.pm
  have hp0 := hp.p0
  have lf := pf.len
  have hiv := inv_bd hp0 (co f d)
  have hA : ∀ i, i ≤ d → psA p f i = co f (d - i) * inv p (co f d) := fun i hi => by rw [psA_one (by omega), hd, Nat.add_sub_cancel]
  intro r
  induction r with
  | zero =>
    intro K h
    have q1 : ¬ (((K + 1 : Nat) : Int) ≤ (N : Int)) := by omega
    refine Ev.succ ?_
    simp only [spec_PowerSums.l0, if_neg q1]
    rw [show K = N by omega]
    exact Ev.now _
  | succ r ih =>
    intro K h
    have hl := psL_len p f K
    have hr := psL_inR hp0 f K
    have hnext := ih (K + 1) (by omega)
    have push : ∀ v, v = psN p f (psL p f K) K → Ev (fun k => spec_PowerSums.l0 k p f (N : Int) (d : Int) (psL p f K ++ [v]) (inv p (co f d)) (wrap64 (((K + 1 : Nat) : Int) + 1))) (psL p f N, 0) := fun v hv => by
      rw [wp1 (by omega), hv]; exact hnext
    have qlen : (psL p f K).length < 17592186044416 := by omega
    have qp : ¬ p = 0 := by omega
    have last : ∀ acc, 0 ≤ acc ∧ acc < p → cg p acc (-(su (fun j => psA p f (j + 1) * co (psL p f K) (K - j)) K)) → d < K + 1 → acc = psN p f (psL p f K) K := fun acc hb hc hlt => by
      unfold psN
      rw [psA_zero (show f.length ≤ K + 1 by omega), Int.mul_zero, Int.add_zero, ← hc.emod, Int.emod_eq_of_lt hb.1 hb.2]
    refine Ev.succ ?_
    have q1 : ((K + 1 : Nat) : Int) ≤ (N : Int) := by omega
    simp only [spec_PowerSums.l0, if_pos q1]
    have inner : ∀ m i acc, i + m = K → 0 ≤ acc ∧ acc < p → cg p acc (-(su (fun j => psA p f (j + 1) * co (psL p f K) (K - j)) i)) →
        Ev (fun k => spec_PowerSums.l1 k p f (N : Int) (d : Int) (psL p f K) (inv p (co f d)) ((K + 1 : Nat) : Int) acc ((i + 1 : Nat) : Int)) (psL p f N, 0) := by
      intro m
      induction m with
      | zero =>
        intro i acc hi hb hc
        obtain rfl : i = K := by omega
        have q2 : ¬ (((i + 1 : Nat) : Int) < ((i + 1 : Nat) : Int)) := by omega
        refine Ev.succ ?_
        simp only [spec_PowerSums.l1, if_neg q2]
        by_cases hk : i + 1 ≤ d
        · have q3 : ((i + 1 : Nat) : Int) ≤ (d : Int) := by omega
          have q4 : wrap64 ((d : Int) - ((i + 1 : Nat) : Int)) = ((d - (i + 1) : Nat) : Int) := by rw [w64 (by omega) (by omega)]; omega
          have q5 : (0 : Int) ≤ ((d - (i + 1) : Nat) : Int) := by omega
          have q6 : ((d - (i + 1) : Nat) : Int) < (f.length : Int) := by omega
          have hco := pf.inR.co hp0 (d - (i + 1))
          have m1 := mul_bd2 hpm hco (y := inv p (co f d)) (by omega)
          have hem := emod_bd (x := co f (d - (i + 1)) * inv p (co f d)) hp0
          have hkm := emod_bd (x := ((i + 1 : Nat) : Int)) hp0
          have m2 := mul_bd2 hpm hkm (y := co f (d - (i + 1)) * inv p (co f d) % p) (by omega)
          simp only [if_pos q3, if_neg qp, q4, if_pos q5, if_pos q6, rd_n]
          rw [show (f.getD (d - (i + 1)) 0) = co f (d - (i + 1)) from rfl, w64 (x := co f (d - (i + 1)) * inv p (co f d)) (by omega) (by omega), tmod_nn m1.1, tmod_nn (show (0 : Int) ≤ ((i + 1 : Nat) : Int) by omega),
            w64 (x := ((i + 1 : Nat) : Int) % p * (co f (d - (i + 1)) * inv p (co f d) % p)) (by omega) (by omega), w64 (by omega) (by omega), spec_mod hp0 (by omega)]
          simp only [Option.bind_some, if_pos qlen]
          refine push _ ?_
          unfold psN
          refine cg.emod ?_
          rw [Int.neg_add, Int.sub_eq_add_neg]
          refine hc.add (((cg.mod _ _).mul ?_).neg)
          rw [hA _ hk]
          exact cg.mod _ _
        · have q3 : ¬ ((i + 1 : Nat) : Int) ≤ (d : Int) := by omega
          simp only [if_neg q3, if_pos qlen]
          exact push _ (last acc hb hc (by omega))
      | succ m ihm =>
        intro i acc hi hb hc
        have q2 : ((i + 1 : Nat) : Int) < ((K + 1 : Nat) : Int) := by omega
        refine Ev.succ ?_
        simp only [spec_PowerSums.l1, if_pos q2]
        by_cases hk : i + 1 ≤ d
        · have q3 : ((i + 1 : Nat) : Int) ≤ (d : Int) := by omega
          have q4 : wrap64 ((d : Int) - ((i + 1 : Nat) : Int)) = ((d - (i + 1) : Nat) : Int) := by rw [w64 (by omega) (by omega)]; omega
          have q5 : (0 : Int) ≤ ((d - (i + 1) : Nat) : Int) := by omega
          have q6 : ((d - (i + 1) : Nat) : Int) < (f.length : Int) := by omega
          have q7 : wrap64 (((K + 1 : Nat) : Int) - ((i + 1 : Nat) : Int)) = ((K - i : Nat) : Int) := by rw [w64 (by omega) (by omega)]; omega
          have q8 : (0 : Int) ≤ ((K - i : Nat) : Int) := by omega
          have q9 : ((K - i : Nat) : Int) < ((psL p f K).length : Int) := by omega
          have hco := pf.inR.co hp0 (d - (i + 1))
          have ho := hr.co hp0 (K - i)
          have m1 := mul_bd2 hpm hco (y := inv p (co f d)) (by omega)
          have hem := emod_bd (x := co f (d - (i + 1)) * inv p (co f d)) hp0
          have m2 := mul_bd2 hpm hem (y := co (psL p f K) (K - i)) (by omega)
          simp only [if_pos q3, if_neg qp, q4, if_pos q5, if_pos q6, rd_n, q7, if_pos q8, if_pos q9]
          rw [show (f.getD (d - (i + 1)) 0) = co f (d - (i + 1)) from rfl, show ((psL p f K).getD (K - i) 0) = co (psL p f K) (K - i) from rfl, w64 (x := co f (d - (i + 1)) * inv p (co f d)) (by omega) (by omega), tmod_nn m1.1,
            w64 (x := co f (d - (i + 1)) * inv p (co f d) % p * co (psL p f K) (K - i)) (by omega) (by omega), w64 (by omega) (by omega), spec_mod hp0 (by omega)]
          simp only [Option.bind_some]
          rw [wp1 (by omega)]
          refine ihm (i + 1) _ (by omega) (emod_bd hp0) ?_
          refine (cg.mod _ _).trans ?_
          rw [su, Int.neg_add, Int.sub_eq_add_neg]
          refine hc.add (cg.neg ?_)
          rw [hA _ hk]
          exact (cg.mod _ _).mul (cg.refl _)
        · have q3 : ¬ ((i + 1 : Nat) : Int) ≤ (d : Int) := by omega
          have q3' : ¬ ((K + 1 : Nat) : Int) ≤ (d : Int) := by omega
          simp only [if_neg q3, if_neg q3', if_pos qlen]
          refine push _ (last acc hb ?_ (by omega))
          rw [su_psA_cut (p := p) (f := f) (psL p f K) K i (by omega) (by omega)]
          exact hc
    exact inner K 0 0 (by omega) (by omega) (by simp only [su]; exact cg.refl _)
theorem sgn_of {p : Int} {f : List Int} (hp : IsP p) (pf : Po p f) {d : Nat} (hd : f.length = d + 1) (i : Nat) (hi : i ≤ 1000) : ∃ s, impl_field_powerSums_c1.f p (monicL p f) (d : Int) (i : Int) = some s ∧ (0 ≤ s ∧ s < p) ∧ cg p s (-(psA p f i)) := by
  have hp2 := hp.p2
  have hpm := hp.pm
  have hp0 := hp.p0
  have lf := pf.len
  obtain ⟨pm, lm, _⟩ := monic_po hp pf (by omega)
  unfold impl_field_powerSums_c1.f
  by_cases h : i ≤ d
  · have q1 : ¬ ((i : Int) > (d : Int)) := by omega
    have q2 : wrap64 ((d : Int) - (i : Int)) = ((d - i : Nat) : Int) := by rw [w64 (by omega) (by omega)]; omega
    have q3 : (0 : Int) ≤ ((d - i : Nat) : Int) := by omega
    have q4 : ((d - i : Nat) : Int) < ((monicL p f).length : Int) := by omega
    have hco := pm.inR.co hp0 (d - i)
    refine ⟨(-(co (monicL p f) (d - i))) % p, ?_, emod_bd hp0, ?_⟩
    · simp only [if_neg q1, q2, if_pos q3, if_pos q4, rd_n]
      rw [show ((monicL p f).getD (d - i) 0) = co (monicL p f) (d - i) from rfl, w64 (by omega) (by omega), impl_mod hp0 (by omega)]
    · refine (cg.mod _ _).trans (cg.neg ?_)
      rw [psA_one (by omega), co_monic hp0, rd_top f (by omega), hd, Nat.add_sub_cancel, Int.mul_comm (co f (d - i))]
      exact cg.mod _ _
  · have q1 : (i : Int) > (d : Int) := by omega
    exact ⟨0, by simp only [if_pos q1], ⟨Int.le_refl _, hp0⟩, by rw [psA_zero (by omega)]; exact cg.refl _⟩
theorem impl_ps {p : Int} {f : List Int} (hp : IsP p) (pf : Po p f) {d : Nat} (hd : f.length = d + 1) {N : Nat} (hN : N ≤ 24) : ∀ r K, K + r = N →
    Ev (fun k => impl_field_powerSums.l0 k (N : Int) (psL p f K) ((K + 1 : Nat) : Int) p (monicL p f) (d : Int)) (psL p f N) := by
  have hp2 := hp.p2
  have hpm := hp.pm
  have hp0 := hp.p0
  have lf := pf.len
  intro r
  induction r with
  | zero =>
    intro K h
    have q1 : ¬ (((K + 1 : Nat) : Int) ≤ (N : Int)) := by omega
    refine Ev.succ ?_
    simp only [impl_field_powerSums.l0, if_neg q1]
    rw [show K = N by omega]
    exact Ev.now _
  | succ r ih =>
    intro K h
    have hl := psL_len p f K
    have hr := psL_inR hp0 f K
    have hnext := ih (K + 1) (by omega)
    have qlen : (psL p f K).length < 17592186044416 := by omega
    obtain ⟨s, es, sb, sc⟩ := sgn_of hp pf hd (K + 1) (by omega)
    have hkm := emod_bd (x := ((K + 1 : Nat) : Int)) hp0
    have m0 := mul_bd2 hpm hkm (y := s) (by omega)
    have q1 : ((K + 1 : Nat) : Int) ≤ (N : Int) := by omega
    refine Ev.succ ?_
    simp only [impl_field_powerSums.l0, if_pos q1, impl_mod hp0 (show p ≤ 1000000000 by omega), Option.bind_some, es, impl_mul hp0 (show p ≤ 1000000000 by omega) (show -9223372036854775808 ≤ ((K + 1 : Nat) : Int) % p * s by omega) (show ((K + 1 : Nat) : Int) % p * s ≤ 9223372036854775807 by omega)]
    have inner : ∀ m i acc, i + m = K → 0 ≤ acc ∧ acc < p → cg p acc (-(su (fun j => psA p f (j + 1) * co (psL p f K) (K - j)) i + ((K + 1 : Nat) : Int) * psA p f (K + 1))) →
        Ev (fun k => impl_field_powerSums.l1 k (N : Int) (psL p f K) ((K + 1 : Nat) : Int) acc ((i + 1 : Nat) : Int) p (monicL p f) (d : Int)) (psL p f N) := by
      intro m
      induction m with
      | zero =>
        intro i acc hi hb hc
        obtain rfl : i = K := by omega
        have q2 : ¬ (((i + 1 : Nat) : Int) < ((i + 1 : Nat) : Int)) := by omega
        refine Ev.succ ?_
        simp only [impl_field_powerSums.l1, if_neg q2, if_pos qlen]
        rw [wp1 (by omega)]
        have e : acc = psN p f (psL p f i) i := by
          unfold psN
          rw [← hc.emod, Int.emod_eq_of_lt hb.1 hb.2]
        rw [e]; exact hnext
      | succ m ihm =>
        intro i acc hi hb hc
        obtain ⟨s', es', sb', sc'⟩ := sgn_of hp pf hd (i + 1) (by omega)
        have q2 : ((i + 1 : Nat) : Int) < ((K + 1 : Nat) : Int) := by omega
        have q7 : wrap64 (((K + 1 : Nat) : Int) - ((i + 1 : Nat) : Int)) = ((K - i : Nat) : Int) := by rw [w64 (by omega) (by omega)]; omega
        have q8 : (0 : Int) ≤ ((K - i : Nat) : Int) := by omega
        have q9 : ((K - i : Nat) : Int) < ((psL p f K).length : Int) := by omega
        have ho := hr.co hp0 (K - i)
        have m2 := mul_bd2 hpm sb' (y := co (psL p f K) (K - i)) (by omega)
        refine Ev.succ ?_
        simp only [impl_field_powerSums.l1, if_pos q2, es', Option.bind_some, q7, if_pos q8, if_pos q9, rd_n]
        rw [show ((psL p f K).getD (K - i) 0) = co (psL p f K) (K - i) from rfl, w64 (x := s' * co (psL p f K) (K - i)) (by omega) (by omega), w64 (by omega) (by omega), impl_mod hp0 (by omega)]
        simp only [Option.bind_some]
        rw [wp1 (by omega)]
        refine ihm (i + 1) _ (by omega) (emod_bd hp0) ?_
        refine (cg.mod _ _).trans ?_
        have hc2 := hc.add (sc'.mul (cg.refl (co (psL p f K) (K - i))))
        refine hc2.trans (cg.of_eq ?_)
        rw [su]
        grind
    refine inner K 0 _ (by omega) (emod_bd hp0) ?_
    refine (cg.mod _ _).trans ?_
    refine ((cg.mod _ _).mul sc).trans (cg.of_eq ?_)
    simp only [su]
    grind
theorem impl_powersums {p : Int} {f : List Int} (hp : IsP p) (pf : Po p f) (h0 : 0 < f.length) {N : Nat} (hN : N ≤ 24) : Ev (fun k => impl_field_powerSums.f k p f (N : Int)) (psL p f N) := by
  have lf := pf.len
  obtain ⟨d, hd⟩ : ∃ d, f.length = d + 1 := ⟨f.length - 1, by omega⟩
  obtain ⟨pm, lm, _⟩ := monic_po hp pf h0
  simp only [impl_field_powerSums.f]
  refine Ev.bind (impl_monic hp.p2 hp.pm (by omega) pf.inR (by omega)) ?_
  rw [impl_deg _ (by omega), lm, hd]
  simp only [Option.bind_some, show ((d + 1 : Nat) : Int) - 1 = (d : Int) by omega, impl_mod hp.p0 (show p ≤ 1000000000 by have := hp.pm; omega)]
  have := impl_ps hp pf hd hN N 0 (by omega)
  simp only [psL, hd, Nat.add_sub_cancel] at this
  exact this
end Go.Proofs.Ytiffnigjblbakaa.H
