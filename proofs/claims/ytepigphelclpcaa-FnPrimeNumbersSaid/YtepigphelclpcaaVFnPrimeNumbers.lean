/- Plain laws that the claim of FnPrimeNumbers reaches: numbers modulo a prime, lists, and what the printed functions answer. -/
import Derived.Laws.Bits64
import Derived.Laws.BitsLemmas
import Derived.RowKit
import Derived.Test.YtepigphelclpcaaWWords
import Derived.Test.YtepigphelclpcaaWMore
import Derived.Test.YtepigphelclpcaaMa1
import Derived.Test.YtepigphelclpcaaMa3
import Derived.Test.YtepigphelclpcaaMa4
import Derived.Test.YtepigphelclpcaaMa5
import Derived.Test.YtepigphelclpcaaMa2
set_option linter.unusedVariables false
set_option linter.unusedSimpArgs false
namespace Go.Proofs.Ytepigphelclpcaa.Num
open Go.RowKit
theorem w64 {x : Int} (h1 : -9223372036854775808 ≤ x) (h2 : x ≤ 9223372036854775807) : wrap64 x = x := by
  unfold wrap64; omega
theorem tmod_nn {a b : Int} (h : 0 ≤ a) : Int.tmod a b = a % b := Int.tmod_eq_emod_of_nonneg h
theorem tmod_lt' {x p : Int} (hp : 0 < p) : Int.tmod x p < p ∧ -p < Int.tmod x p := by
  constructor
  · exact Int.tmod_lt_of_pos x hp
  · have h := Int.tmod_lt_of_pos (-x) hp
    rw [Int.neg_tmod] at h
    omega
/-- the program's way to a number of the field -/
theorem md {x p : Int} (hp : 0 < p) (hp2 : p ≤ 1000000000) : Int.tmod (wrap64 (Int.tmod x p + p)) p = x % p := by
  obtain ⟨h1, h2⟩ := tmod_lt' (x := x) hp
  rw [w64 (by omega) (by omega), tmod_nn (by omega), Int.tmod_def]
  have : x - p * x.tdiv p + p = x + p * (1 - x.tdiv p) := by
    rw [Int.mul_sub]; omega
  rw [this, Int.add_mul_emod_self_left]
theorem emod_bd {x p : Int} (hp : 0 < p) : 0 ≤ x % p ∧ x % p < p := ⟨Int.emod_nonneg _ (by omega), Int.emod_lt_of_pos _ hp⟩
theorem mul_bd {x y a b : Int} (hx0 : 0 ≤ x) (hx : x ≤ a) (hy0 : 0 ≤ y) (hy : y ≤ b) : 0 ≤ x * y ∧ x * y ≤ a * b :=
  ⟨Int.mul_nonneg hx0 hy0, Int.mul_le_mul hx hy hy0 (by omega)⟩
theorem em_l (a b p : Int) : a % p * b % p = a * b % p := by rw [Int.mul_emod, Int.emod_emod, ← Int.mul_emod]
theorem em_r (a b p : Int) : a * (b % p) % p = a * b % p := by rw [Int.mul_emod, Int.emod_emod, ← Int.mul_emod]
/-- what trial division tells -/
def Pr (p : Nat) : Prop := 2 ≤ p ∧ ∀ d, d ∣ p → d = 1 ∨ d = p
theorem Pr.of_trial {p : Nat} (h2 : 2 ≤ p) (h : ∀ d, 2 ≤ d → d * d ≤ p → p % d ≠ 0) : Pr p := by
  refine ⟨h2, fun d hd => ?_⟩
  obtain ⟨e, he⟩ := hd
  have hd0 : 0 < d := by rcases Nat.eq_zero_or_pos d with h0 | h0; (subst h0; simp at he; omega); exact h0
  have he0 : 0 < e := by rcases Nat.eq_zero_or_pos e with h0 | h0; (subst h0; simp at he; omega); exact h0
  rcases Nat.lt_or_ge d 2 with h1 | h1
  · left; omega
  rcases Nat.lt_or_ge e 2 with h3 | h3
  · right
    have : e = 1 := by omega
    subst this; simpa using he.symm
  · exfalso
    rcases Nat.le_total d e with hle | hle
    · refine h d h1 ?_ ?_
      · rw [he]; exact Nat.mul_le_mul_left d hle
      · rw [he]; exact Nat.mul_mod_right d e
    · refine h e h3 ?_ ?_
      · rw [he]; exact Nat.mul_le_mul_right e hle
      · rw [he]; exact Nat.mul_mod_left d e
theorem Pr.cop {p a : Nat} (hp : Pr p) (ha : ¬ p ∣ a) : Nat.Coprime p a := by
  rcases hp.2 _ (Nat.gcd_dvd_left p a) with h | h
  · exact h
  · exact absurd (h ▸ Nat.gcd_dvd_right p a) ha
theorem Pr.euclid {p a b : Nat} (hp : Pr p) (h : p ∣ a * b) : p ∣ a ∨ p ∣ b := by
  by_cases ha : p ∣ a
  · exact .inl ha
  · exact .inr ((hp.cop ha).dvd_of_dvd_mul_left h)
theorem Pr.pow {p a : Nat} (hp : Pr p) (ha : ¬ p ∣ a) : ∀ n, ¬ p ∣ a ^ n
  | 0 => fun h => by
    have h1 := Nat.le_of_dvd (by simp) h
    have := hp.1
    simp only [Nat.pow_zero] at h1
    omega
  | n + 1 => fun h => by
    rw [Nat.pow_succ] at h
    rcases hp.euclid h with h | h
    · exact Pr.pow hp ha n h
    · exact ha h
def ch : Nat → Nat → Nat
  | _, 0 => 1
  | 0, _ + 1 => 0
  | n + 1, k + 1 => ch n k + ch n (k + 1)
theorem ch_gt : ∀ n k, n < k → ch n k = 0
  | 0, k + 1, _ => by simp [ch]
  | n + 1, k + 1, h => by simp [ch, ch_gt n k (by omega), ch_gt n (k + 1) (by omega)]
theorem ch_self : ∀ n, ch n n = 1
  | 0 => by simp [ch]
  | n + 1 => by simp [ch, ch_self n, ch_gt n (n + 1) (by omega)]
theorem ch_mul : ∀ n k, (k + 1) * ch (n + 1) (k + 1) = (n + 1) * ch n k
  | 0, 0 => by simp [ch]
  | 0, k + 1 => by simp [ch]
  | n + 1, 0 => by
    have h := ch_mul n 0
    have h0 : ch n 0 = 1 := by cases n <;> simp [ch]
    have h00 : ch (n+1) 0 = 1 := by simp [ch]
    have e : ch (n + 1 + 1) (0 + 1) = ch (n + 1) 0 + ch (n + 1) (0 + 1) := by simp [ch]
    rw [e, h00]
    rw [h0] at h
    omega
  | n + 1, k + 1 => by
    have h1 := ch_mul n k
    have h2 := ch_mul n (k + 1)
    have e1 : ch (n + 1 + 1) (k + 1 + 1) = ch (n + 1) (k + 1) + ch (n + 1) (k + 1 + 1) := by simp [ch]
    have e2 : ch (n + 1) (k + 1) = ch n k + ch n (k + 1) := by simp [ch]
    rw [e1, Nat.mul_add]
    rw [h2]
    have : (k + 1 + 1) * ch (n + 1) (k + 1) = ch (n + 1) (k + 1) + (k + 1) * ch (n + 1) (k + 1) := by
      rw [Nat.add_mul (k+1) 1, Nat.one_mul]; omega
    rw [this, h1]
    have e3 : (n + 1 + 1) * ch (n + 1) (k + 1) = (n + 1) * ch (n + 1) (k + 1) + ch (n + 1) (k + 1) := by rw [Nat.add_mul, Nat.one_mul]
    rw [e3, e2, Nat.mul_add]
    omega
def sm (f : Nat → Nat) : Nat → Nat
  | 0 => 0
  | n + 1 => sm f n + f n
theorem sm_head (f : Nat → Nat) : ∀ n, sm f (n + 1) = f 0 + sm (fun k => f (k + 1)) n
  | 0 => by simp [sm]
  | n + 1 => by
    have h := sm_head f n
    rw [show sm f (n + 1 + 1) = sm f (n + 1) + f (n + 1) from rfl, h]
    simp only [sm]; omega
theorem sm_add (f g : Nat → Nat) : ∀ n, sm (fun k => f k + g k) n = sm f n + sm g n
  | 0 => rfl
  | n + 1 => by simp only [sm, sm_add f g n]; omega
theorem sm_mul (a : Nat) (f : Nat → Nat) : ∀ n, sm (fun k => a * f k) n = a * sm f n
  | 0 => rfl
  | n + 1 => by simp only [sm, sm_mul a f n]; rw [Nat.mul_add]
theorem sm_congr {f g : Nat → Nat} (h : ∀ k, f k = g k) (n : Nat) : sm f n = sm g n := by
  have : f = g := funext h
  rw [this]
theorem binom (a : Nat) : ∀ n, (a + 1) ^ n = sm (fun k => ch n k * a ^ k) (n + 1)
  | 0 => by simp [sm, ch]
  | n + 1 => by
    rw [Nat.pow_succ, binom a n, sm_head (fun k => ch (n + 1) k * a ^ k) (n + 1)]
    have e : sm (fun k => ch (n + 1) (k + 1) * a ^ (k + 1)) (n + 1) = sm (fun k => a * (ch n k * a ^ k)) (n + 1) + sm (fun k => ch n (k + 1) * a ^ (k + 1)) (n + 1) := by
      rw [← sm_add]
      refine sm_congr (fun k => ?_) _
      simp only [ch]
      rw [Nat.add_mul, Nat.pow_succ]
      have : ch n k * (a ^ k * a) = a * (ch n k * a ^ k) := by
        rw [← Nat.mul_assoc, Nat.mul_comm]
      rw [this]
    rw [e, sm_mul]
    have e2 : sm (fun k => ch n (k + 1) * a ^ (k + 1)) (n + 1) = sm (fun k => ch n (k + 1) * a ^ (k + 1)) n := by
      simp only [sm]; rw [ch_gt n (n + 1) (by omega)]; simp
    rw [e2]
    have e3 := sm_head (fun k => ch n k * a ^ k) n
    have h0 : ch n 0 = 1 := by cases n <;> simp [ch]
    have h00 : ch (n+1) 0 = 1 := by simp [ch]
    rw [h0] at e3
    rw [h00]
    simp only [Nat.pow_zero, Nat.mul_one] at e3 ⊢
    rw [Nat.mul_add, Nat.mul_one, Nat.mul_comm a]
    omega
theorem sm_dvd {p : Nat} (f : Nat → Nat) : ∀ n, (∀ k, k < n → p ∣ f k) → p ∣ sm f n
  | 0, _ => ⟨0, rfl⟩
  | n + 1, h => Nat.dvd_add (sm_dvd f n fun k hk => h k (by omega)) (h n (by omega))
theorem Pr.ch_dvd {p k : Nat} (hp : Pr p) (h0 : 0 < k) (h1 : k < p) : p ∣ ch p k := by
  obtain ⟨q, rfl⟩ : ∃ q, p = q + 1 := ⟨p - 1, by omega⟩
  obtain ⟨j, rfl⟩ : ∃ j, k = j + 1 := ⟨k - 1, by omega⟩
  have h := ch_mul q j
  have hd : (q + 1) ∣ (j + 1) * ch (q + 1) (j + 1) := ⟨ch q j, h⟩
  rcases hp.euclid hd with h' | h'
  · have := Nat.le_of_dvd (by omega) h'; omega
  · exact h'
theorem Pr.fermat {p : Nat} (hp : Pr p) : ∀ a, a ^ p % p = a % p
  | 0 => by rw [Nat.zero_pow (by have := hp.1; omega)]
  | a + 1 => by
    have ih := Pr.fermat hp a
    rw [binom a p, sm_head]
    obtain ⟨q, hq⟩ : ∃ q, p = q + 1 := ⟨p - 1, by have := hp.1; omega⟩
    have h0 : ch p 0 * a ^ 0 = 1 := by rw [hq]; simp [ch]
    have e : sm (fun k => ch p (k + 1) * a ^ (k + 1)) p = sm (fun k => ch p (k + 1) * a ^ (k + 1)) q + a ^ p := by
      rw [hq]; simp only [sm]; rw [ch_self, Nat.one_mul]
    rw [h0, e]
    have hd : p ∣ sm (fun k => ch p (k + 1) * a ^ (k + 1)) q :=
      sm_dvd _ q fun k hk => Nat.dvd_trans (hp.ch_dvd (by omega) (by omega)) (Nat.dvd_mul_right _ _)
    obtain ⟨c, hc⟩ := hd
    rw [hc]
    rw [show 1 + (p * c + a ^ p) = (1 + a ^ p) + p * c by omega, Nat.add_mul_mod_self_left, Nat.add_mod, ih, ← Nat.add_mod, Nat.add_comm]
theorem dvd_sub_of_mod {p a b : Nat} (hle : a ≤ b) (h : a % p = b % p) : p ∣ b - a := by
  refine ⟨b / p - a / p, ?_⟩
  have h1 := Nat.div_add_mod a p
  have h2 := Nat.div_add_mod b p
  rw [Nat.mul_sub]
  omega
theorem Pr.fermat1 {p a : Nat} (hp : Pr p) (ha : ¬ p ∣ a) : a ^ (p - 1) % p = 1 := by
  have h := hp.fermat a
  obtain ⟨q, hq⟩ : ∃ q, p = q + 1 := ⟨p - 1, by have := hp.1; omega⟩
  have ha0 : 1 ≤ a ^ q := Nat.one_le_iff_ne_zero.mpr (by
    intro h0
    have : a = 0 := by
      rcases Nat.eq_zero_or_pos a with h1 | h1
      · exact h1
      · have := Nat.pow_pos (n := q) h1; omega
    exact ha (this ▸ ⟨0, rfl⟩))
  have hd : p ∣ a * (a ^ q - 1) := by
    have e : a * (a ^ q - 1) = a ^ p - a := by rw [hq, Nat.pow_succ, Nat.mul_sub, Nat.mul_one, Nat.mul_comm]
    rw [e]
    have hle : a ≤ a ^ p := by rw [hq, Nat.pow_succ]; exact Nat.le_mul_of_pos_left a ha0
    exact dvd_sub_of_mod hle h.symm
  rcases hp.euclid hd with h' | h'
  · exact absurd h' ha
  · rw [show p - 1 = q by omega]
    obtain ⟨c, hc⟩ := h'
    have h1 : (1 : Nat) % p = 1 := Nat.mod_eq_of_lt (by have := hp.1; omega)
    have e : a ^ q = 1 + p * c := by omega
    rw [e, Nat.add_mul_mod_self_left, h1]
theorem pow_emod (p x : Int) (n : Nat) : (x % p) ^ n % p = x ^ n % p := by
  induction n with
  | zero => simp
  | succ n ih => rw [Int.pow_succ, Int.pow_succ, Int.mul_emod, ih, Int.emod_emod_of_dvd _ (Int.dvd_refl p), ← Int.mul_emod]
theorem pw_step {p : Int} (out x : Int) (n : Nat) : out * (x * x % p) ^ n % p = out * x ^ (2 * n) % p := by
  rw [Int.mul_emod, pow_emod, ← Int.mul_emod, Int.pow_mul, show x ^ 2 = x * x by rw [Int.pow_succ, Int.pow_succ, Int.pow_zero, Int.one_mul]]
/-- the loop that squares and multiplies, in the program's spelling (no last reduction) -/
theorem pow_loop (l : Nat → Int → Int → Int → Int → Option Int) (fin : Int → Int → Option Int) (m : Int → Int) (p : Int) (hp : 2 ≤ p) (hp2 : p ≤ 1000000) (hm : ∀ y, 0 ≤ y → m y = y % p)
    (hl : ∀ k e out x, l (k + 1) p e out x = if e > 0 then (if Int.tmod e 2 = 1 then l k p (wrap64 (Int.tdiv e 2)) (m (wrap64 (out * x))) (m (wrap64 (x * x))) else l k p (wrap64 (Int.tdiv e 2)) out (m (wrap64 (x * x)))) else fin p out)
    (d : Nat) : ∀ (k : Nat) (e out x : Int), e < d → d < k → 0 ≤ e → e ≤ 1000000000 → 0 ≤ out → out < p → 0 ≤ x → x < p → l k p e out x = fin p (out * x ^ e.toNat % p) := by
  induction d with
  | zero => intro k e out x h; omega
  | succ d ih =>
    intro k e out x he hk h0 h9 o0 o1 x0 x1
    obtain ⟨k, rfl⟩ : ∃ m, k = m + 1 := ⟨k - 1, by omega⟩
    rw [hl]
    by_cases h : e > 0
    · rw [if_pos h]
      have hb1 := mul_bd (a := 1000000) (b := 1000000) o0 (by omega) x0 (by omega)
      have hb2 := mul_bd (a := 1000000) (b := 1000000) x0 (by omega) x0 (by omega)
      have e1 : Int.tdiv e 2 = e / 2 := Int.tdiv_eq_ediv_of_nonneg h0
      have e2 : Int.tmod e 2 = e % 2 := tmod_nn h0
      have ew : wrap64 (e / 2) = e / 2 := w64 (by omega) (by omega)
      rw [e1, e2, ew, w64 (x := out * x) (by omega) (by omega), w64 (x := x * x) (by omega) (by omega), hm _ hb1.1, hm _ hb2.1]
      have b2 := emod_bd (x := x * x) (p := p) (by omega)
      have b1 := emod_bd (x := out * x) (p := p) (by omega)
      by_cases h1 : e % 2 = 1
      · rw [if_pos h1, ih k (e / 2) (out * x % p) (x * x % p) (by omega) (by omega) (by omega) (by omega) b1.1 b1.2 b2.1 b2.2, pw_step]
        have hn : e.toNat = 2 * (e / 2).toNat + 1 := by omega
        rw [hn, Int.pow_succ, em_l]
        have : out * x * x ^ (2 * (e / 2).toNat) = out * (x ^ (2 * (e / 2).toNat) * x) := by
          rw [Int.mul_assoc, Int.mul_comm x]
        rw [this]
      · rw [if_neg h1, ih k (e / 2) out (x * x % p) (by omega) (by omega) (by omega) (by omega) o0 o1 b2.1 b2.2, pw_step]
        have hn : e.toNat = 2 * (e / 2).toNat := by omega
        rw [hn]
    · rw [if_neg h]
      have hz : e.toNat = 0 := by omega
      rw [hz, Int.pow_zero, Int.mul_one, Int.emod_eq_of_lt o0 o1]
/-- is it a prime of the program's? -/
def IsP (p : Int) : Prop := 2 ≤ p ∧ p ≤ 10007 ∧ Pr p.toNat
open Classical in
/-- the same as a bool -/
noncomputable def primeB (p : Int) : Bool := decide (IsP p)
theorem primeB_iff {p : Int} : primeB p = true ↔ IsP p := by
  unfold primeB; exact @decide_eq_true_iff _ (Classical.propDecidable _)
theorem prime_loop (l : Nat → Int → Int → Option Bool) (p : Int) (hp : 2 ≤ p) (hp2 : p ≤ 10007)
    (hl : ∀ k i, l (k + 1) p i = if wrap64 (i * i) ≤ p then (if i = 0 then none else (if Int.tmod p i = 0 then some false else l k p (wrap64 (i + 1)))) else some true)
    (d : Nat) : ∀ (k : Nat) (i : Int), 2 ≤ i → i ≤ 101 → 101 - i < d → d < k →
      ∃ b, l k p i = some b ∧ (b = true ↔ ∀ j : Int, i ≤ j → j * j ≤ p → p % j ≠ 0) := by
  induction d with
  | zero => intro k i h1 h2 h3; omega
  | succ d ih =>
    intro k i h1 h2 h3 hk
    obtain ⟨k, rfl⟩ : ∃ m, k = m + 1 := ⟨k - 1, by omega⟩
    rw [hl]
    have hb := mul_bd (a := 101) (b := 101) (x := i) (y := i) (by omega) h2 (by omega) h2
    rw [w64 (by omega) (by omega), w64 (x := i + 1) (by omega) (by omega)]
    by_cases hle : i * i ≤ p
    · have hi : i ≤ 100 := by
        rcases Int.lt_or_le 100 i with h | h
        · have := Int.mul_le_mul (a := 101) (b := 101) (c := i) (d := i) (by omega) (by omega) (by omega) (by omega); omega
        · exact h
      rw [if_pos hle, if_neg (by omega), tmod_nn (by omega)]
      by_cases hd : p % i = 0
      · rw [if_pos hd]
        exact ⟨false, rfl, by simp; exact ⟨i, Int.le_refl _, hle, hd⟩⟩
      · rw [if_neg hd]
        obtain ⟨b, hb1, hb2⟩ := ih k (i + 1) (by omega) (by omega) (by omega) (by omega)
        refine ⟨b, hb1, hb2.trans ⟨fun h j hj hjj => ?_, fun h j hj hjj => h j (by omega) hjj⟩⟩
        by_cases e : j = i
        · subst e; exact hd
        · exact h j (by omega) hjj
    · rw [if_neg hle]
      refine ⟨true, rfl, by simp; intro j hj hjj; exfalso; apply hle; exact Int.le_trans (Int.mul_le_mul hj hj (by omega) (by omega)) hjj⟩
theorem trial_iff {p : Int} (hp : 2 ≤ p) : (∀ j : Int, 2 ≤ j → j * j ≤ p → p % j ≠ 0) ↔ Pr p.toNat := by
  constructor
  · intro h
    refine Pr.of_trial (by omega) fun d hd hdd h0 => ?_
    refine h d (by omega) ?_ ?_
    · have : ((d * d : Nat) : Int) ≤ p := by omega
      simpa using this
    · have : ((p.toNat % d : Nat) : Int) = 0 := by rw [h0]; rfl
      rw [Int.natCast_emod, Int.toNat_of_nonneg (by omega)] at this
      exact this
  · intro h j hj hjj h0
    obtain ⟨d, rfl⟩ : ∃ d : Nat, j = d := ⟨j.toNat, by omega⟩
    obtain ⟨n, rfl⟩ : ∃ n : Nat, p = n := ⟨p.toNat, by omega⟩
    simp only [Int.toNat_natCast] at h
    have hdv : d ∣ n := by
      apply Nat.dvd_of_mod_eq_zero
      have : ((n % d : Nat) : Int) = 0 := by rw [Int.natCast_emod]; exact h0
      omega
    have hn : d * d ≤ n := by
      have : ((d * d : Nat) : Int) ≤ n := by simpa using hjj
      omega
    rcases h.2 d hdv with e | e
    · omega
    · subst e
      have : d * 2 ≤ d * d := Nat.mul_le_mul_left d (by omega)
      omega
theorem primeB_loop {p : Int} {b : Bool} (h1 : 2 ≤ p) (h2 : p ≤ 10007) (h : b = true ↔ ∀ j : Int, 2 ≤ j → j * j ≤ p → p % j ≠ 0) : b = primeB p := by
  rw [Bool.eq_iff_iff, primeB_iff, h, trial_iff h1]
  exact ⟨fun h => ⟨h1, h2, h⟩, fun h => h.2.2⟩
theorem primeB_lo {p : Int} (h : ¬ 2 ≤ p) : primeB p = false := by
  rw [Bool.eq_false_iff]; intro e; exact h (primeB_iff.1 e).1
theorem primeB_hi {p : Int} (h : ¬ p ≤ 10007) : primeB p = false := by
  rw [Bool.eq_false_iff]; intro e; exact h (primeB_iff.1 e).2.1
end Go.Proofs.Ytepigphelclpcaa.Num
namespace Go.Proofs.Ytepigphelclpcaa.H
open Go.RowKit Go.Proofs.YtepigphelclpcaaW.PrintWords Go.Proofs.YtepigphelclpcaaW.PrintLast Go.Proofs.YtepigphelclpcaaW.PrintMore Go.Proofs.Ytepigphelclpcaa.Num
theorem Ev.succ {α : Type} {g : Nat → Option α} {r : α} (h : Ev (fun k => g (k + 1)) r) : Ev g r := by
  obtain ⟨K, h⟩ := h
  refine ⟨K + 1, fun k hk => ?_⟩
  obtain ⟨m, rfl⟩ : ∃ m, k = m + 1 := ⟨k - 1, by omega⟩
  exact h m (by omega)
theorem wp1 {i : Nat} (h : i ≤ 1000000000000) : wrap64 ((i : Int) + 1) = ((i + 1 : Nat) : Int) := by rw [w64 (by omega) (by omega)]; omega
theorem rd_lt (l : List Int) (i : Nat) (h : i < l.length) : rd l (i : Int) = l[i] := by simp [rd, h]
end Go.Proofs.Ytepigphelclpcaa.H
namespace Go.Proofs.Ytepigphelclpcaa.Num
open Go.RowKit
def cg (p a b : Int) : Prop := p ∣ a - b
theorem cg.refl {p : Int} (a : Int) : cg p a a := ⟨0, by omega⟩
theorem cg.symm {p a b : Int} : cg p a b → cg p b a := fun ⟨k, h⟩ => ⟨-k, by rw [Int.mul_neg, ← h]; omega⟩
theorem cg.trans {p a b c : Int} : cg p a b → cg p b c → cg p a c := fun ⟨k, h⟩ ⟨m, h'⟩ => ⟨k + m, by rw [Int.mul_add, ← h, ← h']; omega⟩
theorem cg.mul {p a b c d : Int} : cg p a b → cg p c d → cg p (a * c) (b * d) := fun ⟨k, h⟩ ⟨m, h'⟩ => ⟨k * c + b * m, by
  have e1 : a = b + p * k := by omega
  have e2 : c = d + p * m := by omega
  rw [e1, e2]; grind⟩
theorem cg.mod (p a : Int) : cg p (a % p) a := ⟨-(a / p), by have := Int.mul_ediv_add_emod a p; rw [Int.mul_neg]; omega⟩
theorem cg.emod {p a b : Int} (h : cg p a b) : a % p = b % p := by
  obtain ⟨k, h⟩ := h
  rw [show a = b + p * k by omega, Int.add_mul_emod_self_left]
theorem cg.of_emod {p a b : Int} (h : a % p = b % p) : cg p a b := (cg.mod p a).symm.trans (h ▸ cg.mod p b)
theorem cg.pow {p a b : Int} (h : cg p a b) : ∀ n : Nat, cg p (a ^ n) (b ^ n)
  | 0 => by rw [Int.pow_zero, Int.pow_zero]; exact cg.refl 1
  | n + 1 => by rw [Int.pow_succ, Int.pow_succ]; exact (cg.pow h n).mul h
/-- x to the p - 2 is an inverse -/
theorem inv_cg {p x : Int} (hp : IsP p) (hx : x % p ≠ 0) : cg p (x * (x ^ (p - 2).toNat % p)) 1 := by
  have h2 := hp.1
  obtain ⟨n, hn⟩ : ∃ n : Nat, p = n := ⟨p.toNat, by omega⟩
  subst hn
  have hpr : Pr n := by simpa using hp.2.2
  obtain ⟨a, ha⟩ : ∃ a : Nat, x % (n : Int) = a := ⟨(x % (n : Int)).toNat, by have := emod_bd (x := x) (p := n) (by omega); omega⟩
  have hb := emod_bd (x := x) (p := (n : Int)) (by omega)
  have hnd : ¬ n ∣ a := fun h => by have := Nat.le_of_dvd (by omega) h; omega
  have hf := hpr.fermat1 hnd
  have h1 : cg n ((a : Int) ^ (n - 1)) 1 := by
    refine cg.of_emod ?_
    have : ((a ^ (n - 1) % n : Nat) : Int) = 1 := by rw [hf]; rfl
    rw [Int.natCast_emod, Int.natCast_pow] at this
    rw [this, Int.emod_eq_of_lt (by omega) (by omega)]
  have hxa : cg n x a := ha ▸ (cg.mod n x).symm
  refine ((cg.refl x).mul (cg.mod _ _)).trans ?_
  have e : x * x ^ ((n : Int) - 2).toNat = x ^ (n - 1) := by
    rw [Int.mul_comm, ← Int.pow_succ]; congr 1; omega
  rw [e]
  exact (hxa.pow _).trans h1
end Go.Proofs.Ytepigphelclpcaa.Num
namespace Go.Proofs.Ytepigphelclpcaa.H
open Go.RowKit Go.Proofs.YtepigphelclpcaaW.PrintWords Go.Proofs.YtepigphelclpcaaW.PrintLast Go.Proofs.YtepigphelclpcaaW.PrintMore Go.Proofs.Ytepigphelclpcaa.Num
theorem spec_prime (p : Int) : Ev (fun k => spec_l01Prime.f k p) (primeB p) := by
  refine ⟨200, fun k hk => ?_⟩
  unfold spec_l01Prime.f spec_l01In.f
  by_cases h1 : p ≥ 2
  · by_cases h2 : p ≤ 10007
    · obtain ⟨b, hb, hiff⟩ := prime_loop spec_l01Prime.l0 p h1 h2 (fun k i => rfl) 102 k 2 (by omega) (by omega) (by omega) (by omega)
      simp only [if_pos h1, Option.bind_some, decide_eq_true h2, if_true, hb, primeB_loop h1 h2 hiff]
    · simp [if_pos h1, decide_eq_false h2, primeB_hi h2]
  · simp [if_neg h1, primeB_lo h1]
theorem impl_prime (p : Int) : Ev (fun k => impl_IsPrime.f k p) (primeB p) := by
  refine ⟨200, fun k hk => ?_⟩
  unfold impl_IsPrime.f impl_within.f
  by_cases h1 : 2 ≤ p
  · by_cases h2 : p ≤ 10007
    · obtain ⟨b, hb, hiff⟩ := prime_loop impl_IsPrime.l0 p h1 h2 (fun k i => rfl) 102 k 2 (by omega) (by omega) (by omega) (by omega)
      simp only [if_pos h1, Option.bind_some, decide_eq_true h2, if_true, hb, primeB_loop h1 h2 hiff]
    · simp [if_pos h1, decide_eq_false h2, primeB_hi h2]
  · simp [if_neg h1, primeB_lo h1]
theorem spec_mod {p x : Int} (hp : 0 < p) (hp2 : p ≤ 1000000000) : spec_l01Mod.f p x = some (x % p) := by
  unfold spec_l01Mod.f; rw [if_neg (by omega), md hp hp2]
theorem impl_mod {p x : Int} (hp : 0 < p) (hp2 : p ≤ 1000000000) : impl_field_mod.f p x = some (x % p) := by
  unfold impl_field_mod.f; rw [if_neg (by omega), md hp hp2]
theorem spec_power {p x e : Int} (hp : 2 ≤ p) (hp2 : p ≤ 10007) (e0 : 0 ≤ e) (e1 : e ≤ 1000000000) : Ev (fun k => spec_l01Power.f k p x e) (x ^ e.toNat % p) := by
  refine ⟨e.toNat + 2, fun k hk => ?_⟩
  have hb := emod_bd (x := x) (p := p) (by omega)
  simp only [spec_l01Power.f, spec_mod (show 0 < p by omega) (show p ≤ 1000000000 by omega), Option.bind_some]
  rw [pow_loop spec_l01Power.l0 (fun p out => some (Int.tmod out p)) (fun y => Int.tmod y p) p hp (by omega) (fun y hy => tmod_nn hy) (fun k e out x => by
      simp only [spec_l01Power.l0, if_neg (show ¬ p = 0 by omega)]) (e.toNat + 1) k e 1 (x % p) (by omega) (by omega) e0 e1 (by omega) (by omega) hb.1 hb.2]
  rw [Int.one_mul, pow_emod, tmod_nn (emod_bd (by omega)).1, Int.emod_emod]
theorem impl_power {p x e : Int} (hp : 2 ≤ p) (hp2 : p ≤ 10007) (x0 : 0 ≤ x) (x1 : x < p) (e0 : 0 ≤ e) (e1 : e ≤ 1000000000) : Ev (fun k => impl_field_power.f k p x e) (x ^ e.toNat % p) := by
  refine ⟨e.toNat + 2, fun k hk => ?_⟩
  simp only [impl_field_power.f, impl_mod (show 0 < p by omega) (show p ≤ 1000000000 by omega), Option.bind_some]
  rw [Int.emod_eq_of_lt (a := 1) (by omega) (by omega)]
  rw [pow_loop (fun k p e out x => impl_field_power.l0 k p x e out) (fun p out => some out) (fun y => y % p) p hp (by omega) (fun y hy => rfl) (fun k e out x => by
      simp only [impl_field_power.l0, impl_field_mul.f, impl_mod (show 0 < p by omega) (show p ≤ 1000000000 by omega), Option.bind_some]) (e.toNat + 1) k e 1 x (by omega) (by omega) e0 e1 (by omega) (by omega) x0 x1]
  rw [Int.one_mul]
theorem spec_inverse {p x : Int} (hp : 2 ≤ p) (hp2 : p ≤ 10007) : Ev (fun k => spec_l01Inverse.f k p x) (x ^ (p - 2).toNat % p) := by
  obtain ⟨K, h⟩ := spec_power (x := x) (e := p - 2) hp hp2 (by omega) (by omega)
  refine ⟨K, fun k hk => ?_⟩
  have hw : wrap64 (p - 2) = p - 2 := w64 (by omega) (by omega)
  have e := h k hk
  simp only at e
  simp only [spec_l01Inverse.f, hw, e, Option.bind_some]
theorem impl_inverse {p x : Int} (hp : 2 ≤ p) (hp2 : p ≤ 10007) (x0 : 0 ≤ x) (x1 : x < p) : Ev (fun k => impl_field_inverse.f k p x) (x ^ (p - 2).toNat % p) := by
  obtain ⟨K, h⟩ := impl_power (x := x) (e := p - 2) hp hp2 x0 x1 (by omega) (by omega)
  refine ⟨K, fun k hk => ?_⟩
  have hw : wrap64 (p - 2) = p - 2 := w64 (by omega) (by omega)
  have e := h k hk
  simp only at e
  simp only [impl_field_inverse.f, hw, e, Option.bind_some]
theorem u64_small (n : Int) (h₀ : 0 ≤ n) (h₁ : n < 2 ^ 63) : IntKind.u64.wrap n = n := by rw [IntKind.wrap_u64]; omega
theorem draw_bits (x : Int) : 0 ≤ Go.bits .and .u64 (IntKind.u64.wrap x / 8589934592) 16777215 ∧ Go.bits .and .u64 (IntKind.u64.wrap x / 8589934592) 16777215 < 16777216 := by
  have e : IntKind.u64.wrap x = x % 18446744073709551616 := IntKind.wrap_u64 x
  rw [e]
  have h := bits_mask .u64 63 (by decide) u64_small 24 (by decide) (x % 18446744073709551616 / 8589934592) (by omega) (by omega)
  have e2 : (2 : Int) ^ 24 - 1 = 16777215 := by decide
  have e3 : (2 : Int) ^ 24 = 16777216 := by decide
  rw [e2, e3] at h
  rw [h]; omega
/-- a list of bytes -/
def Bytes (l : List Int) : Prop := l.length ≤ 1000000 ∧ ∀ x ∈ l, 0 ≤ x ∧ x ≤ 255
theorem byte_rd {l : List Int} (h : Bytes l) (i : Int) : 0 ≤ rd l i ∧ rd l i ≤ 255 := by
  unfold rd
  rw [List.getD_eq_getElem?_getD]
  cases hx : l[i.toNat]? with
  | none => simp
  | some x => simpa using h.2 x (List.mem_of_getElem? hx)
theorem draw_next {l : List Int} (hb : Bytes l) {i : Int} (h0 : 0 ≤ i) (h1 : i ≤ l.length) (s n : Int) :
    ∃ v j t : Int, spec_l01Next.f l i s n = some (v, j, t) ∧ 0 ≤ j ∧ j ≤ l.length ∧ 0 ≤ v ∧ (1 ≤ n → v < n) := by
  unfold spec_l01Next.f
  obtain ⟨b0, b1⟩ := draw_bits (IntKind.u64.wrap (s * 6364136223846793005) + 1442695040888963407)
  generalize Go.bits .and .u64 (IntKind.u64.wrap (IntKind.u64.wrap (s * 6364136223846793005) + 1442695040888963407) / 8589934592) 16777215 = b at b0 b1 ⊢
  have hl := hb.1
  have hw : wrap64 b = b := w64 (by omega) (by omega)
  by_cases c1 : n < 1
  · exact ⟨0, i, s, by rw [if_pos c1], h0, h1, by omega, by omega⟩
  · by_cases c2 : i < l.length
    · obtain ⟨r0, r1⟩ := byte_rd hb i
      have hw2 : wrap64 (rd l i) = rd l i := w64 (by omega) (by omega)
      have hw3 : wrap64 (b + rd l i) = b + rd l i := w64 (by omega) (by omega)
      have hw4 : wrap64 (i + 1) = i + 1 := w64 (by omega) (by omega)
      refine ⟨Int.tmod (b + rd l i) n, i + 1, _, by rw [if_neg c1, if_pos c2, if_pos h0, if_neg (show ¬ n = 0 by omega), hw, hw2, hw3, hw4], by omega, by omega, ?_, fun _ => ?_⟩
      · rw [tmod_nn (by omega)]; exact Int.emod_nonneg _ (by omega)
      · rw [tmod_nn (by omega)]; exact Int.emod_lt_of_pos _ (by omega)
    · refine ⟨Int.tmod b n, i, _, by rw [if_neg c1, if_neg c2, if_neg (show ¬ n = 0 by omega), hw], h0, h1, ?_, fun _ => ?_⟩
      · rw [tmod_nn b0]; exact Int.emod_nonneg _ (by omega)
      · rw [tmod_nn b0]; exact Int.emod_lt_of_pos _ (by omega)
theorem draw_pick {l : List Int} (hb : Bytes l) {i : Int} (h0 : 0 ≤ i) (h1 : i ≤ l.length) (s : Int) (c : List Int) (hc : 0 < c.length) :
    ∃ v j t : Int, spec_l01Pick.f l i s c = some (v, j, t) ∧ 0 ≤ j ∧ j ≤ l.length ∧ v ∈ c := by
  obtain ⟨v, j, t, e, j0, j1, v0, v1⟩ := draw_next hb h0 h1 s (c.length : Int)
  have v2 := v1 (by omega)
  obtain ⟨m, rfl⟩ : ∃ m : Nat, v = (m : Int) := ⟨v.toNat, by omega⟩
  refine ⟨c[m]'(by omega), j, t, ?_, j0, j1, List.getElem_mem _⟩
  simp only [spec_l01Pick.f, e, Option.bind_some, if_pos v0, if_pos v2, rd_lt c m (by omega)]
theorem draw_prime {l : List Int} (hb : Bytes l) {i : Int} (h0 : 0 ≤ i) (h1 : i ≤ l.length) (s : Int) :
    ∃ v j t : Int, spec_l01DrawPrime.f l i s = some (v, j, t) ∧ 0 ≤ j ∧ j ≤ l.length ∧ v ∈ ([2, 3, 5, 7, 7, 11, 13, 17, 31, 101, 997, 10007] : List Int) := by
  obtain ⟨v, j, t, e, r⟩ := draw_pick hb h0 h1 s ([2, 3, 5, 7, 7, 11, 13, 17, 31, 101, 997, 10007] : List Int) (by simp)
  exact ⟨v, j, t, by simp only [spec_l01DrawPrime.f, e, Option.bind_some], r⟩
theorem draw_near {l : List Int} (hb : Bytes l) {i : Int} (h0 : 0 ≤ i) (h1 : i ≤ l.length) (s n : Int) :
    ∃ v j t : Int, spec_l01Near.f l i s n = some (v, j, t) ∧ 0 ≤ j ∧ j ≤ l.length := by
  obtain ⟨v, j, t, e, j0, j1, _⟩ := draw_next hb h0 h1 s 14
  obtain ⟨v', j', t', e', j0', j1', _⟩ := draw_pick hb j0 j1 t ([(-1), wrap64 (n + 1), 1099511627776, (-4611686018427387904)] : List Int) (by simp)
  obtain ⟨v2, j2, t2, e2, j02, j12, _⟩ := draw_next hb j0 j1 t (wrap64 (n + 1))
  by_cases hv : v = 0
  · exact ⟨v', j', t', by simp only [spec_l01Near.f, e, Option.bind_some, if_pos hv, e'], j0', j1'⟩
  · exact ⟨v2, j2, t2, by simp only [spec_l01Near.f, e, Option.bind_some, if_neg hv, e2], j02, j12⟩
theorem draw_any {l : List Int} (hb : Bytes l) {i : Int} (h0 : 0 ≤ i) (h1 : i ≤ l.length) (s : Int) :
    ∃ v j t : Int, spec_l01Any.f l i s = some (v, j, t) ∧ 0 ≤ j ∧ j ≤ l.length := by
  obtain ⟨v, j, t, e, j0, j1, _⟩ := draw_next hb h0 h1 s 24
  obtain ⟨v', j', t', e', j0', j1', _⟩ := draw_pick hb j0 j1 t ([0, 1, 4, 9, 10006, 10009, (-3)] : List Int) (by simp)
  obtain ⟨v2, j2, t2, e2, j02, j12, _⟩ := draw_prime hb j0 j1 t
  by_cases hv : v = 0
  · exact ⟨v', j', t', by simp only [spec_l01Any.f, e, Option.bind_some, if_pos hv, e'], j0', j1'⟩
  · exact ⟨v2, j2, t2, by simp only [spec_l01Any.f, e, Option.bind_some, if_neg hv, e2], j02, j12⟩
theorem draw_from (l : List Int) (hl : l.length ≤ 1000000) : ∃ s : Int, Ev (fun k => spec_l01From.f k l) (l, 0, s) := by
  have loop : ∀ d i : Nat, i + d = l.length → ∀ s : Int, ∃ t : Int, Ev (fun k => spec_l01From.l0 k l (i : Int) l 0 s) (l, 0, t) := by
    intro d
    induction d with
    | zero => intro i h s; exact ⟨s, by refine Ev.succ ?_; simp (disch := omega) only [spec_l01From.l0, if_neg]; exact Ev.now _⟩
    | succ d ih =>
      intro i h s
      by_cases c : (i : Int) < 4096
      · obtain ⟨t, ht⟩ := ih (i + 1) (by omega) (IntKind.u64.wrap ((IntKind.u64.wrap ((IntKind.u64.wrap (s * 1099511628211)) + (IntKind.u64.wrap (rd l (i : Int))))) + 103))
        refine ⟨t, Ev.succ ?_⟩
        simp (disch := omega) only [spec_l01From.l0, if_pos, wp1]; exact ht
      · exact ⟨s, by refine Ev.succ ?_; simp (disch := omega) only [spec_l01From.l0, if_pos, if_neg]; exact Ev.now _⟩
  simp only [spec_l01From.f]
  exact loop l.length 0 (by omega) _
theorem draw_inverse {l : List Int} (hb : Bytes l) : ∃ p x : Int, Ev (fun k => spec_DrawInverseOf.f k l) (p, x) := by
  obtain ⟨s, hs⟩ := draw_from l hb.1
  obtain ⟨v, j, t, e, j0, j1⟩ := draw_any hb (i := 0) (by omega) (by omega) s
  obtain ⟨v2, j2, t2, e2, _⟩ := draw_near hb j0 j1 t (mx (wrap64 (v - 2)) 0)
  refine ⟨v, wrap64 (1 + v2), ?_⟩
  simp only [spec_DrawInverseOf.f]
  refine Ev.bind hs ?_
  simp only [e, e2, Option.bind_some]; exact Ev.now _
theorem draw_power {l : List Int} (hb : Bytes l) : ∃ p x n : Int, Ev (fun k => spec_DrawPowerOf.f k l) (p, x, n) := by
  obtain ⟨s, hs⟩ := draw_from l hb.1
  obtain ⟨v, j, t, e, j0, j1⟩ := draw_any hb (i := 0) (by omega) (by omega) s
  obtain ⟨v2, j2, t2, e2, j02, j12⟩ := draw_near hb j0 j1 t (mx (wrap64 (v - 1)) 0)
  obtain ⟨v3, j3, t3, e3, j03, j13, _⟩ := draw_next hb j02 j12 t2 100
  obtain ⟨v4, j4, t4, e4, j04, j14, _⟩ := draw_next hb j03 j13 t3 10000000
  obtain ⟨v5, j5, t5, e5, _⟩ := draw_pick hb j04 j14 t4 ([0, 1, 2, v3, wrap64 (v4 * 100), (-1), 1000000001] : List Int) (by simp)
  refine ⟨v, v2, v5, ?_⟩
  simp only [spec_DrawPowerOf.f]
  refine Ev.bind hs ?_
  simp only [e, e2, e3, e4, e5, Option.bind_some]; exact Ev.now _
theorem draw_isprime {l : List Int} (hb : Bytes l) : ∃ n : Int, Ev (fun k => spec_DrawIsPrime.f k l) n := by
  obtain ⟨s, hs⟩ := draw_from l hb.1
  obtain ⟨v, j, t, e, j0, j1, _⟩ := draw_next hb (i := 0) (by omega) (by omega) s 200
  obtain ⟨v2, j2, t2, e2, j02, j12, _⟩ := draw_next hb j0 j1 t 10010
  obtain ⟨v3, j3, t3, e3, j03, j13, _⟩ := draw_prime hb j02 j12 t2
  obtain ⟨v4, j4, t4, e4, j04, j14⟩ := draw_any hb j03 j13 t3
  obtain ⟨v5, j5, t5, e5, _⟩ := draw_pick hb j04 j14 t4 ([v, v2, v3, v4] : List Int) (by simp)
  refine ⟨v5, ?_⟩
  simp only [spec_DrawIsPrime.f]
  refine Ev.bind hs ?_
  simp only [e, e2, e3, e4, e5, Option.bind_some]; exact Ev.now _
theorem inverse_of (p x : Int) : (IsP p ∧ 1 ≤ x ∧ x ≤ p - 1 ∧ Ev (fun k => spec_InverseOf.f k p x) (x ^ (p - 2).toNat % p, 0) ∧ Ev (fun k => impl_InverseOf.f k p x) (x ^ (p - 2).toNat % p, 0)) ∨
    (Ev (fun k => spec_InverseOf.f k p x) (0, 2) ∧ Ev (fun k => impl_InverseOf.f k p x) (0, 2)) := by
  have h1 := spec_prime p
  have h2 := impl_prime p
  cases hp : primeB p with
  | false =>
    rw [hp] at h1 h2
    refine .inr ⟨?_, ?_⟩
    · simp only [spec_InverseOf.f]; refine Ev.bind h1 ?_; simp only [Bool.false_eq_true, if_false]; exact Ev.now _
    · simp only [impl_InverseOf.f]; refine Ev.bind h2 ?_; simp only [Bool.false_eq_true, if_false]; exact Ev.now _
  | true =>
    have hq := primeB_iff.1 hp
    have hp0 := hq.1
    have hp1 := hq.2.1
    rw [hp] at h1 h2
    have hw : wrap64 (p - 1) = p - 1 := w64 (by omega) (by omega)
    by_cases c1 : 1 ≤ x
    · by_cases c2 : x ≤ p - 1
      · refine .inl ⟨hq, c1, c2, ?_, ?_⟩
        · simp only [spec_InverseOf.f]; refine Ev.bind h1 ?_
          simp only [spec_l01In.f, hw, if_pos (show x ≥ 1 from c1), decide_eq_true c2, Option.bind_some, if_true]
          exact Ev.bind (spec_inverse hp0 hp1) (Ev.now _)
        · simp only [impl_InverseOf.f]; refine Ev.bind h2 ?_
          simp only [impl_within.f, hw, if_pos c1, decide_eq_true c2, Option.bind_some, if_true]
          exact Ev.bind (impl_inverse hp0 hp1 (by omega) (by omega)) (Ev.now _)
      · refine .inr ⟨?_, ?_⟩
        · simp only [spec_InverseOf.f]; refine Ev.bind h1 ?_
          simp only [spec_l01In.f, hw, if_pos (show x ≥ 1 from c1), decide_eq_false c2, Option.bind_some, if_true, Bool.false_eq_true, if_false]; exact Ev.now _
        · simp only [impl_InverseOf.f]; refine Ev.bind h2 ?_
          simp only [impl_within.f, hw, if_pos c1, decide_eq_false c2, Option.bind_some, if_true, Bool.false_eq_true, if_false]; exact Ev.now _
    · refine .inr ⟨?_, ?_⟩
      · simp only [spec_InverseOf.f]; refine Ev.bind h1 ?_
        simp only [spec_l01In.f, hw, if_neg (show ¬ x ≥ 1 from c1), Option.bind_some, if_true, Bool.false_eq_true, if_false]; exact Ev.now _
      · simp only [impl_InverseOf.f]; refine Ev.bind h2 ?_
        simp only [impl_within.f, hw, if_neg c1, Option.bind_some, if_true, Bool.false_eq_true, if_false]; exact Ev.now _
theorem impl_power_of {p x e : Int} (hq : IsP p) (x0 : 0 ≤ x) (x1 : x < p) (e0 : 0 ≤ e) (e1 : e ≤ 1000000000) : Ev (fun k => impl_PowerOf.f k p x e) (x ^ e.toNat % p, 0) := by
  have h2 := impl_prime p
  rw [primeB_iff.2 hq] at h2
  have hp0 := hq.1
  have hp1 := hq.2.1
  simp only [impl_PowerOf.f]; refine Ev.bind h2 ?_
  simp only [impl_field_has.f, impl_within.f, if_pos (show x ≥ 0 from x0), decide_eq_true x1, Option.bind_some, if_true, if_pos e0, decide_eq_true e1]
  exact Ev.bind (impl_power hp0 hp1 x0 x1 e0 e1) (Ev.now _)
theorem power_of (p x e : Int) : (IsP p ∧ 0 ≤ x ∧ x < p ∧ 0 ≤ e ∧ e ≤ 1000000000 ∧ Ev (fun k => spec_PowerOf.f k p x e) (x ^ e.toNat % p, 0) ∧ Ev (fun k => impl_PowerOf.f k p x e) (x ^ e.toNat % p, 0)) ∨
    (Ev (fun k => spec_PowerOf.f k p x e) (0, 2) ∧ Ev (fun k => impl_PowerOf.f k p x e) (0, 2)) := by
  have h1 := spec_prime p
  have h2 := impl_prime p
  cases hp : primeB p with
  | false =>
    rw [hp] at h1 h2
    refine .inr ⟨?_, ?_⟩
    · simp only [spec_PowerOf.f]; refine Ev.bind h1 ?_; simp only [Bool.false_eq_true, if_false]; exact Ev.now _
    · simp only [impl_PowerOf.f]; refine Ev.bind h2 ?_; simp only [Bool.false_eq_true, if_false]; exact Ev.now _
  | true =>
    have hq := primeB_iff.1 hp
    have hp0 := hq.1
    have hp1 := hq.2.1
    rw [hp] at h1 h2
    have hw : wrap64 (p - 1) = p - 1 := w64 (by omega) (by omega)
    by_cases c1 : 0 ≤ x
    · by_cases c2 : x < p
      · by_cases c3 : 0 ≤ e
        · by_cases c4 : e ≤ 1000000000
          · refine .inl ⟨hq, c1, c2, c3, c4, ?_, impl_power_of hq c1 c2 c3 c4⟩
            simp only [spec_PowerOf.f]; refine Ev.bind h1 ?_
            simp only [spec_l01In.f, hw, if_pos (show x ≥ 0 from c1), decide_eq_true (show x ≤ p - 1 by omega), Option.bind_some, if_true, if_pos (show e ≥ 0 from c3), decide_eq_true c4]
            exact Ev.bind (spec_power hp0 hp1 c3 c4) (Ev.now _)
          · refine .inr ⟨?_, ?_⟩
            · simp only [spec_PowerOf.f]; refine Ev.bind h1 ?_
              simp only [spec_l01In.f, hw, if_pos (show x ≥ 0 from c1), decide_eq_true (show x ≤ p - 1 by omega), Option.bind_some, if_true, if_pos (show e ≥ 0 from c3), decide_eq_false c4, Bool.false_eq_true, if_false]; exact Ev.now _
            · simp only [impl_PowerOf.f]; refine Ev.bind h2 ?_
              simp only [impl_field_has.f, impl_within.f, if_pos (show x ≥ 0 from c1), decide_eq_true c2, Option.bind_some, if_true, if_pos c3, decide_eq_false c4, Bool.false_eq_true, if_false]; exact Ev.now _
        · refine .inr ⟨?_, ?_⟩
          · simp only [spec_PowerOf.f]; refine Ev.bind h1 ?_
            simp only [spec_l01In.f, hw, if_pos (show x ≥ 0 from c1), decide_eq_true (show x ≤ p - 1 by omega), Option.bind_some, if_true, if_neg (show ¬ e ≥ 0 from c3), Bool.false_eq_true, if_false]; exact Ev.now _
          · simp only [impl_PowerOf.f]; refine Ev.bind h2 ?_
            simp only [impl_field_has.f, impl_within.f, if_pos (show x ≥ 0 from c1), decide_eq_true c2, Option.bind_some, if_true, if_neg c3, Bool.false_eq_true, if_false]; exact Ev.now _
      · refine .inr ⟨?_, ?_⟩
        · simp only [spec_PowerOf.f]; refine Ev.bind h1 ?_
          simp only [spec_l01In.f, hw, if_pos (show x ≥ 0 from c1), decide_eq_false (show ¬ x ≤ p - 1 by omega), Option.bind_some, if_true, Bool.false_eq_true, if_false]; exact Ev.now _
        · simp only [impl_PowerOf.f]; refine Ev.bind h2 ?_
          simp only [impl_field_has.f, if_pos (show x ≥ 0 from c1), decide_eq_false c2, Option.bind_some, if_true, Bool.false_eq_true, if_false]; exact Ev.now _
    · refine .inr ⟨?_, ?_⟩
      · simp only [spec_PowerOf.f]; refine Ev.bind h1 ?_
        simp only [spec_l01In.f, hw, if_neg (show ¬ x ≥ 0 from c1), Option.bind_some, if_true, Bool.false_eq_true, if_false]; exact Ev.now _
      · simp only [impl_PowerOf.f]; refine Ev.bind h2 ?_
        simp only [impl_field_has.f, if_neg (show ¬ x ≥ 0 from c1), Option.bind_some, if_true, Bool.false_eq_true, if_false]; exact Ev.now _
end Go.Proofs.Ytepigphelclpcaa.H
