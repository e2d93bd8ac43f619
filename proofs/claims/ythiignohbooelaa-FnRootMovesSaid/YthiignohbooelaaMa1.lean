/- Joined texts of a claim: the printed functions and what is proved of them. -/
import Derived.RowKit
import Derived.Test.YthiignohbooelaaYHx0
import Derived.Test.YthiignohbooelaaMab1
import Derived.Test.YthiignohbooelaaMab2
import Derived.Test.YthiignohbooelaaMab3
/- Numbers modulo a prime: trial division, Euclid's lemma, Fermat's little theorem, powers. No program in sight. -/
set_option linter.unusedVariables false
set_option linter.unusedSimpArgs false
namespace Go.Proofs.Ythiignohbooelaa.Num
open Go.RowKit
theorem w64 {x : Int} (h1 : -9223372036854775808 ≤ x) (h2 : x ≤ 9223372036854775807) : wrap64 x = x := by
  unfold wrap64; omega
theorem tmod_nn {a b : Int} (h : 0 ≤ a) : Int.tmod a b = a % b := Int.tmod_eq_emod_of_nonneg h
theorem tmod_lt' {x p : Int} (hp : 0 < p) : Int.tmod x p < p ∧ -p < Int.tmod x p := by
  constructor
  · exact Int.tmod_lt_of_pos x hp
  · have h := Int.tmod_lt_of_pos (-x) hp
    rw [Int.neg_tmod] at h
    omega
/-- the program's way to a number of the field -/
theorem md {x p : Int} (hp : 0 < p) (hp2 : p ≤ 1000000000) : Int.tmod (wrap64 (Int.tmod x p + p)) p = x % p := by
  obtain ⟨h1, h2⟩ := tmod_lt' (x := x) hp
  rw [w64 (by omega) (by omega), tmod_nn (by omega), Int.tmod_def]
  have : x - p * x.tdiv p + p = x + p * (1 - x.tdiv p) := by
    rw [Int.mul_sub]; omega
  rw [this, Int.add_mul_emod_self_left]
theorem emod_bd {x p : Int} (hp : 0 < p) : 0 ≤ x % p ∧ x % p < p := ⟨Int.emod_nonneg _ (by omega), Int.emod_lt_of_pos _ hp⟩
theorem mul_bd {x y a b : Int} (hx0 : 0 ≤ x) (hx : x ≤ a) (hy0 : 0 ≤ y) (hy : y ≤ b) : 0 ≤ x * y ∧ x * y ≤ a * b :=
  ⟨Int.mul_nonneg hx0 hy0, Int.mul_le_mul hx hy hy0 (by omega)⟩
/-! ## what may be left out under '% p' -/
theorem em_l (a b p : Int) : a % p * b % p = a * b % p := by rw [Int.mul_emod, Int.emod_emod, ← Int.mul_emod]
theorem ea_l (a b p : Int) : (a % p + b) % p = (a + b) % p := Int.emod_add_emod _ _ _
theorem ea_r (a b p : Int) : (a + b % p) % p = (a + b) % p := Int.add_emod_emod _ _ _
theorem en_ (b p : Int) : (-(b % p)) % p = (-b) % p := by
  have h : -(b % p) = -b + p * (b / p) := by have := Int.mul_ediv_add_emod b p; omega
  rw [h, Int.add_mul_emod_self_left]
/-! ## primes -/
/-- what trial division tells -/
def Pr (p : Nat) : Prop := 2 ≤ p ∧ ∀ d, d ∣ p → d = 1 ∨ d = p
theorem Pr.of_trial {p : Nat} (h2 : 2 ≤ p) (h : ∀ d, 2 ≤ d → d * d ≤ p → p % d ≠ 0) : Pr p := by
  refine ⟨h2, fun d hd => ?_⟩
  obtain ⟨e, he⟩ := hd
  have hd0 : 0 < d := by rcases Nat.eq_zero_or_pos d with h0 | h0; (subst h0; simp at he; omega); exact h0
  have he0 : 0 < e := by rcases Nat.eq_zero_or_pos e with h0 | h0; (subst h0; simp at he; omega); exact h0
  rcases Nat.lt_or_ge d 2 with h1 | h1
  · left; omega
  rcases Nat.lt_or_ge e 2 with h3 | h3
  · right
    have : e = 1 := by omega
    subst this; simpa using he.symm
  · exfalso
    rcases Nat.le_total d e with hle | hle
    · refine h d h1 ?_ ?_
      · rw [he]; exact Nat.mul_le_mul_left d hle
      · rw [he]; exact Nat.mul_mod_right d e
    · refine h e h3 ?_ ?_
      · rw [he]; exact Nat.mul_le_mul_right e hle
      · rw [he]; exact Nat.mul_mod_left d e
theorem Pr.cop {p a : Nat} (hp : Pr p) (ha : ¬ p ∣ a) : Nat.Coprime p a := by
  rcases hp.2 _ (Nat.gcd_dvd_left p a) with h | h
  · exact h
  · exact absurd (h ▸ Nat.gcd_dvd_right p a) ha
theorem Pr.euclid {p a b : Nat} (hp : Pr p) (h : p ∣ a * b) : p ∣ a ∨ p ∣ b := by
  by_cases ha : p ∣ a
  · exact .inl ha
  · exact .inr ((hp.cop ha).dvd_of_dvd_mul_left h)
theorem Pr.pow {p a : Nat} (hp : Pr p) (ha : ¬ p ∣ a) : ∀ n, ¬ p ∣ a ^ n
  | 0 => fun h => by
    have h1 := Nat.le_of_dvd (by simp) h
    have := hp.1
    simp only [Nat.pow_zero] at h1
    omega
  | n + 1 => fun h => by
    rw [Nat.pow_succ] at h
    rcases hp.euclid h with h | h
    · exact Pr.pow hp ha n h
    · exact ha h
/-! ## Fermat -/
def ch : Nat → Nat → Nat
  | _, 0 => 1
  | 0, _ + 1 => 0
  | n + 1, k + 1 => ch n k + ch n (k + 1)
theorem ch_gt : ∀ n k, n < k → ch n k = 0
  | 0, k + 1, _ => by simp [ch]
  | n + 1, k + 1, h => by simp [ch, ch_gt n k (by omega), ch_gt n (k + 1) (by omega)]
theorem ch_self : ∀ n, ch n n = 1
  | 0 => by simp [ch]
  | n + 1 => by simp [ch, ch_self n, ch_gt n (n + 1) (by omega)]
theorem ch_mul : ∀ n k, (k + 1) * ch (n + 1) (k + 1) = (n + 1) * ch n k
  | 0, 0 => by simp [ch]
  | 0, k + 1 => by simp [ch]
  | n + 1, 0 => by
    have h := ch_mul n 0
    have h0 : ch n 0 = 1 := by cases n <;> simp [ch]
    have h00 : ch (n+1) 0 = 1 := by simp [ch]
    have e : ch (n + 1 + 1) (0 + 1) = ch (n + 1) 0 + ch (n + 1) (0 + 1) := by simp [ch]
    rw [e, h00]
    rw [h0] at h
    omega
  | n + 1, k + 1 => by
    have h1 := ch_mul n k
    have h2 := ch_mul n (k + 1)
    have e1 : ch (n + 1 + 1) (k + 1 + 1) = ch (n + 1) (k + 1) + ch (n + 1) (k + 1 + 1) := by simp [ch]
    have e2 : ch (n + 1) (k + 1) = ch n k + ch n (k + 1) := by simp [ch]
    rw [e1, Nat.mul_add]
    rw [h2]
    have : (k + 1 + 1) * ch (n + 1) (k + 1) = ch (n + 1) (k + 1) + (k + 1) * ch (n + 1) (k + 1) := by
      rw [Nat.add_mul (k+1) 1, Nat.one_mul]; omega
    rw [this, h1]
    have e3 : (n + 1 + 1) * ch (n + 1) (k + 1) = (n + 1) * ch (n + 1) (k + 1) + ch (n + 1) (k + 1) := by rw [Nat.add_mul, Nat.one_mul]
    rw [e3, e2, Nat.mul_add]
    omega
def sm (f : Nat → Nat) : Nat → Nat
  | 0 => 0
  | n + 1 => sm f n + f n
theorem sm_head (f : Nat → Nat) : ∀ n, sm f (n + 1) = f 0 + sm (fun k => f (k + 1)) n
  | 0 => by simp [sm]
  | n + 1 => by
    have h := sm_head f n
    rw [show sm f (n + 1 + 1) = sm f (n + 1) + f (n + 1) from rfl, h]
    simp only [sm]; omega
theorem sm_add (f g : Nat → Nat) : ∀ n, sm (fun k => f k + g k) n = sm f n + sm g n
  | 0 => rfl
  | n + 1 => by simp only [sm, sm_add f g n]; omega
theorem sm_mul (a : Nat) (f : Nat → Nat) : ∀ n, sm (fun k => a * f k) n = a * sm f n
  | 0 => rfl
  | n + 1 => by simp only [sm, sm_mul a f n]; rw [Nat.mul_add]
theorem sm_congr {f g : Nat → Nat} (h : ∀ k, f k = g k) (n : Nat) : sm f n = sm g n := by
  have : f = g := funext h
  rw [this]
theorem binom (a : Nat) : ∀ n, (a + 1) ^ n = sm (fun k => ch n k * a ^ k) (n + 1)
  | 0 => by simp [sm, ch]
  | n + 1 => by
    rw [Nat.pow_succ, binom a n, sm_head (fun k => ch (n + 1) k * a ^ k) (n + 1)]
    have e : sm (fun k => ch (n + 1) (k + 1) * a ^ (k + 1)) (n + 1) = sm (fun k => a * (ch n k * a ^ k)) (n + 1) + sm (fun k => ch n (k + 1) * a ^ (k + 1)) (n + 1) := by
      rw [← sm_add]
      refine sm_congr (fun k => ?_) _
      simp only [ch]
      rw [Nat.add_mul, Nat.pow_succ]
      have : ch n k * (a ^ k * a) = a * (ch n k * a ^ k) := by
        rw [← Nat.mul_assoc, Nat.mul_comm]
      rw [this]
    rw [e, sm_mul]
    have e2 : sm (fun k => ch n (k + 1) * a ^ (k + 1)) (n + 1) = sm (fun k => ch n (k + 1) * a ^ (k + 1)) n := by
      simp only [sm]; rw [ch_gt n (n + 1) (by omega)]; simp
    rw [e2]
    have e3 := sm_head (fun k => ch n k * a ^ k) n
    have h0 : ch n 0 = 1 := by cases n <;> simp [ch]
    have h00 : ch (n+1) 0 = 1 := by simp [ch]
    rw [h0] at e3
    rw [h00]
    simp only [Nat.pow_zero, Nat.mul_one] at e3 ⊢
    rw [Nat.mul_add, Nat.mul_one, Nat.mul_comm a]
    omega
theorem sm_dvd {p : Nat} (f : Nat → Nat) : ∀ n, (∀ k, k < n → p ∣ f k) → p ∣ sm f n
  | 0, _ => ⟨0, rfl⟩
  | n + 1, h => Nat.dvd_add (sm_dvd f n fun k hk => h k (by omega)) (h n (by omega))
theorem Pr.ch_dvd {p k : Nat} (hp : Pr p) (h0 : 0 < k) (h1 : k < p) : p ∣ ch p k := by
  obtain ⟨q, rfl⟩ : ∃ q, p = q + 1 := ⟨p - 1, by omega⟩
  obtain ⟨j, rfl⟩ : ∃ j, k = j + 1 := ⟨k - 1, by omega⟩
  have h := ch_mul q j
  have hd : (q + 1) ∣ (j + 1) * ch (q + 1) (j + 1) := ⟨ch q j, h⟩
  rcases hp.euclid hd with h' | h'
  · have := Nat.le_of_dvd (by omega) h'; omega
  · exact h'
theorem Pr.fermat {p : Nat} (hp : Pr p) : ∀ a, a ^ p % p = a % p
  | 0 => by rw [Nat.zero_pow (by have := hp.1; omega)]
  | a + 1 => by
    have ih := Pr.fermat hp a
    rw [binom a p, sm_head]
    obtain ⟨q, hq⟩ : ∃ q, p = q + 1 := ⟨p - 1, by have := hp.1; omega⟩
    have h0 : ch p 0 * a ^ 0 = 1 := by rw [hq]; simp [ch]
    have e : sm (fun k => ch p (k + 1) * a ^ (k + 1)) p = sm (fun k => ch p (k + 1) * a ^ (k + 1)) q + a ^ p := by
      rw [hq]; simp only [sm]; rw [ch_self, Nat.one_mul]
    rw [h0, e]
    have hd : p ∣ sm (fun k => ch p (k + 1) * a ^ (k + 1)) q :=
      sm_dvd _ q fun k hk => Nat.dvd_trans (hp.ch_dvd (by omega) (by omega)) (Nat.dvd_mul_right _ _)
    obtain ⟨c, hc⟩ := hd
    rw [hc]
    rw [show 1 + (p * c + a ^ p) = (1 + a ^ p) + p * c by omega, Nat.add_mul_mod_self_left, Nat.add_mod, ih, ← Nat.add_mod, Nat.add_comm]
theorem dvd_sub_of_mod {p a b : Nat} (hle : a ≤ b) (h : a % p = b % p) : p ∣ b - a := by
  refine ⟨b / p - a / p, ?_⟩
  have h1 := Nat.div_add_mod a p
  have h2 := Nat.div_add_mod b p
  rw [Nat.mul_sub]
  omega
theorem Pr.fermat1 {p a : Nat} (hp : Pr p) (ha : ¬ p ∣ a) : a ^ (p - 1) % p = 1 := by
  have h := hp.fermat a
  obtain ⟨q, hq⟩ : ∃ q, p = q + 1 := ⟨p - 1, by have := hp.1; omega⟩
  have ha0 : 1 ≤ a ^ q := Nat.one_le_iff_ne_zero.mpr (by
    intro h0
    have : a = 0 := by
      rcases Nat.eq_zero_or_pos a with h1 | h1
      · exact h1
      · have := Nat.pow_pos (n := q) h1; omega
    exact ha (this ▸ ⟨0, rfl⟩))
  have hd : p ∣ a * (a ^ q - 1) := by
    have e : a * (a ^ q - 1) = a ^ p - a := by rw [hq, Nat.pow_succ, Nat.mul_sub, Nat.mul_one, Nat.mul_comm]
    rw [e]
    have hle : a ≤ a ^ p := by rw [hq, Nat.pow_succ]; exact Nat.le_mul_of_pos_left a ha0
    exact dvd_sub_of_mod hle h.symm
  rcases hp.euclid hd with h' | h'
  · exact absurd h' ha
  · rw [show p - 1 = q by omega]
    obtain ⟨c, hc⟩ := h'
    have h1 : (1 : Nat) % p = 1 := Nat.mod_eq_of_lt (by have := hp.1; omega)
    have e : a ^ q = 1 + p * c := by omega
    rw [e, Nat.add_mul_mod_self_left, h1]
/-! ## powers modulo p, in Int -/
/-- x to the n modulo p -/
def pw (p x : Int) (n : Nat) : Int := x ^ n % p
theorem pow_emod (p x : Int) (n : Nat) : (x % p) ^ n % p = x ^ n % p := by
  induction n with
  | zero => simp
  | succ n ih => rw [Int.pow_succ, Int.pow_succ, Int.mul_emod, ih, Int.emod_emod_of_dvd _ (Int.dvd_refl p), ← Int.mul_emod]
theorem pw_step {p : Int} (out x : Int) (n : Nat) : out * (x * x % p) ^ n % p = out * x ^ (2 * n) % p := by
  rw [Int.mul_emod, pow_emod, ← Int.mul_emod, Int.pow_mul, show x ^ 2 = x * x by rw [Int.pow_succ, Int.pow_succ, Int.pow_zero, Int.one_mul]]
/-- the loop that squares and multiplies, in the program's spelling (no last reduction) -/
theorem pow_loop (l : Nat → Int → Int → Int → Int → Option Int) (fin : Int → Int → Option Int) (m : Int → Int) (p : Int) (hp : 2 ≤ p) (hp2 : p ≤ 1000000) (hm : ∀ y, 0 ≤ y → m y = y % p)
    (hl : ∀ k e out x, l (k + 1) p e out x = if e > 0 then (if Int.tmod e 2 = 1 then l k p (wrap64 (Int.tdiv e 2)) (m (wrap64 (out * x))) (m (wrap64 (x * x))) else l k p (wrap64 (Int.tdiv e 2)) out (m (wrap64 (x * x)))) else fin p out)
    (d : Nat) : ∀ (k : Nat) (e out x : Int), e < d → d < k → 0 ≤ e → e ≤ 1000000000 → 0 ≤ out → out < p → 0 ≤ x → x < p → l k p e out x = fin p (out * x ^ e.toNat % p) := by
  induction d with
  | zero => intro k e out x h; omega
  | succ d ih =>
    intro k e out x he hk h0 h9 o0 o1 x0 x1
    obtain ⟨k, rfl⟩ : ∃ m, k = m + 1 := ⟨k - 1, by omega⟩
    rw [hl]
    by_cases h : e > 0
    · rw [if_pos h]
      have hb1 := mul_bd (a := 1000000) (b := 1000000) o0 (by omega) x0 (by omega)
      have hb2 := mul_bd (a := 1000000) (b := 1000000) x0 (by omega) x0 (by omega)
      have e1 : Int.tdiv e 2 = e / 2 := Int.tdiv_eq_ediv_of_nonneg h0
      have e2 : Int.tmod e 2 = e % 2 := tmod_nn h0
      have ew : wrap64 (e / 2) = e / 2 := w64 (by omega) (by omega)
      rw [e1, e2, ew, w64 (x := out * x) (by omega) (by omega), w64 (x := x * x) (by omega) (by omega), hm _ hb1.1, hm _ hb2.1]
      have b2 := emod_bd (x := x * x) (p := p) (by omega)
      have b1 := emod_bd (x := out * x) (p := p) (by omega)
      by_cases h1 : e % 2 = 1
      · rw [if_pos h1, ih k (e / 2) (out * x % p) (x * x % p) (by omega) (by omega) (by omega) (by omega) b1.1 b1.2 b2.1 b2.2, pw_step]
        have hn : e.toNat = 2 * (e / 2).toNat + 1 := by omega
        rw [hn, Int.pow_succ, em_l]
        have : out * x * x ^ (2 * (e / 2).toNat) = out * (x ^ (2 * (e / 2).toNat) * x) := by
          rw [Int.mul_assoc, Int.mul_comm x]
        rw [this]
      · rw [if_neg h1, ih k (e / 2) out (x * x % p) (by omega) (by omega) (by omega) (by omega) o0 o1 b2.1 b2.2, pw_step]
        have hn : e.toNat = 2 * (e / 2).toNat := by omega
        rw [hn]
    · rw [if_neg h]
      have hz : e.toNat = 0 := by omega
      rw [hz, Int.pow_zero, Int.mul_one, Int.emod_eq_of_lt o0 o1]
/-- is it a prime of the program's? -/
def IsP (p : Int) : Prop := 2 ≤ p ∧ p ≤ 10007 ∧ Pr p.toNat
open Classical in
/-- the same as a bool -/
noncomputable def primeB (p : Int) : Bool := decide (IsP p)
theorem primeB_iff {p : Int} : primeB p = true ↔ IsP p := by
  unfold primeB; exact @decide_eq_true_iff _ (Classical.propDecidable _)
theorem prime_loop (l : Nat → Int → Int → Option Bool) (p : Int) (hp : 2 ≤ p) (hp2 : p ≤ 10007)
    (hl : ∀ k i, l (k + 1) p i = if wrap64 (i * i) ≤ p then (if i = 0 then none else (if Int.tmod p i = 0 then some false else l k p (wrap64 (i + 1)))) else some true)
    (d : Nat) : ∀ (k : Nat) (i : Int), 2 ≤ i → i ≤ 101 → 101 - i < d → d < k →
      ∃ b, l k p i = some b ∧ (b = true ↔ ∀ j : Int, i ≤ j → j * j ≤ p → p % j ≠ 0) := by
  induction d with
  | zero => intro k i h1 h2 h3; omega
  | succ d ih =>
    intro k i h1 h2 h3 hk
    obtain ⟨k, rfl⟩ : ∃ m, k = m + 1 := ⟨k - 1, by omega⟩
    rw [hl]
    have hb := mul_bd (a := 101) (b := 101) (x := i) (y := i) (by omega) h2 (by omega) h2
    rw [w64 (by omega) (by omega), w64 (x := i + 1) (by omega) (by omega)]
    by_cases hle : i * i ≤ p
    · have hi : i ≤ 100 := by
        rcases Int.lt_or_le 100 i with h | h
        · have := Int.mul_le_mul (a := 101) (b := 101) (c := i) (d := i) (by omega) (by omega) (by omega) (by omega); omega
        · exact h
      rw [if_pos hle, if_neg (by omega), tmod_nn (by omega)]
      by_cases hd : p % i = 0
      · rw [if_pos hd]
        exact ⟨false, rfl, by simp; exact ⟨i, Int.le_refl _, hle, hd⟩⟩
      · rw [if_neg hd]
        obtain ⟨b, hb1, hb2⟩ := ih k (i + 1) (by omega) (by omega) (by omega) (by omega)
        refine ⟨b, hb1, hb2.trans ⟨fun h j hj hjj => ?_, fun h j hj hjj => h j (by omega) hjj⟩⟩
        by_cases e : j = i
        · subst e; exact hd
        · exact h j (by omega) hjj
    · rw [if_neg hle]
      refine ⟨true, rfl, by simp; intro j hj hjj; exfalso; apply hle; exact Int.le_trans (Int.mul_le_mul hj hj (by omega) (by omega)) hjj⟩
theorem trial_iff {p : Int} (hp : 2 ≤ p) : (∀ j : Int, 2 ≤ j → j * j ≤ p → p % j ≠ 0) ↔ Pr p.toNat := by
  constructor
  · intro h
    refine Pr.of_trial (by omega) fun d hd hdd h0 => ?_
    refine h d (by omega) ?_ ?_
    · have : ((d * d : Nat) : Int) ≤ p := by omega
      simpa using this
    · have : ((p.toNat % d : Nat) : Int) = 0 := by rw [h0]; rfl
      rw [Int.natCast_emod, Int.toNat_of_nonneg (by omega)] at this
      exact this
  · intro h j hj hjj h0
    obtain ⟨d, rfl⟩ : ∃ d : Nat, j = d := ⟨j.toNat, by omega⟩
    obtain ⟨n, rfl⟩ : ∃ n : Nat, p = n := ⟨p.toNat, by omega⟩
    simp only [Int.toNat_natCast] at h
    have hdv : d ∣ n := by
      apply Nat.dvd_of_mod_eq_zero
      have : ((n % d : Nat) : Int) = 0 := by rw [Int.natCast_emod]; exact h0
      omega
    have hn : d * d ≤ n := by
      have : ((d * d : Nat) : Int) ≤ n := by simpa using hjj
      omega
    rcases h.2 d hdv with e | e
    · omega
    · subst e
      have : d * 2 ≤ d * d := Nat.mul_le_mul_left d (by omega)
      omega
theorem primeB_loop {p : Int} {b : Bool} (h1 : 2 ≤ p) (h2 : p ≤ 10007) (h : b = true ↔ ∀ j : Int, 2 ≤ j → j * j ≤ p → p % j ≠ 0) : b = primeB p := by
  rw [Bool.eq_iff_iff, primeB_iff, h, trial_iff h1]
  exact ⟨fun h => ⟨h1, h2, h⟩, fun h => h.2.2⟩
theorem primeB_lo {p : Int} (h : ¬ 2 ≤ p) : primeB p = false := by
  rw [Bool.eq_false_iff]; intro e; exact h (primeB_iff.1 e).1
theorem primeB_hi {p : Int} (h : ¬ p ≤ 10007) : primeB p = false := by
  rw [Bool.eq_false_iff]; intro e; exact h (primeB_iff.1 e).2.1
end Go.Proofs.Ythiignohbooelaa.Num
namespace Go.Proofs.Ythiignohbooelaa.H
open Go.RowKit Go.Proofs.YthiignohbooelaaW.PrintWords Go.Proofs.YthiignohbooelaaW.PrintLast Go.Proofs.YthiignohbooelaaW.PrintMore
attribute [local go_sem] max2_int min2_int max_two min_two max_three min_three max_four min_four   -- for this text's walks alone
set_option linter.unusedVariables false
set_option linter.unusedSimpArgs false
end Go.Proofs.Ythiignohbooelaa.H
namespace Go.Proofs.Ythiignohbooelaa.H
open Go.RowKit Go.Proofs.YthiignohbooelaaW.PrintWords Go.Proofs.YthiignohbooelaaW.PrintLast Go.Proofs.YthiignohbooelaaW.PrintMore
attribute [local go_sem] max2_int min2_int max_two min_two max_three min_three max_four min_four   -- for this text's walks alone
set_option linter.unusedVariables false
set_option linter.unusedSimpArgs false
end Go.Proofs.Ythiignohbooelaa.H
namespace Go.Proofs.Ythiignohbooelaa.H
open Go.RowKit Go.Proofs.YthiignohbooelaaW.PrintWords Go.Proofs.YthiignohbooelaaW.PrintLast Go.Proofs.YthiignohbooelaaW.PrintMore
attribute [local go_sem] max2_int min2_int max_two min_two max_three min_three max_four min_four   -- for this text's walks alone
set_option linter.unusedVariables false
set_option linter.unusedSimpArgs false
end Go.Proofs.Ythiignohbooelaa.H
namespace Go.Proofs.Ythiignohbooelaa.H
open Go.RowKit Go.Proofs.YthiignohbooelaaW.PrintWords Go.Proofs.YthiignohbooelaaW.PrintLast Go.Proofs.YthiignohbooelaaW.PrintMore
attribute [local go_sem] max2_int min2_int max_two min_two max_three min_three max_four min_four   -- for this text's walks alone
set_option linter.unusedVariables false
set_option linter.unusedSimpArgs false
end Go.Proofs.Ythiignohbooelaa.H
/- The helpers of the laws: copies, equality, marks. -/
set_option linter.unusedVariables false
set_option linter.unusedSimpArgs false
namespace Go.Proofs.Ythiignohbooelaa.H
open Go.RowKit Go.Proofs.YthiignohbooelaaW.PrintWords Go.Proofs.YthiignohbooelaaW.PrintLast Go.Proofs.Ythiignohbooelaa.Num
theorem rd_nat (l : List Int) (i : Nat) : rd l (i : Int) = l.getD i 0 := by simp [rd]
theorem rd_lt (l : List Int) (i : Nat) (h : i < l.length) : rd l (i : Int) = l[i] := by simp [rd, h]
theorem wn {i : Nat} (h : i ≤ 1000000000000) : wrap64 ((i : Int) + 1) = ((i + 1 : Nat) : Int) := by rw [w64 (by omega) (by omega)]; omega
/-- n, n + 1, .. : d of them -/
def up (n : Int) : Nat → List Int
  | 0 => []
  | d + 1 => n :: up (n + 1) d
end Go.Proofs.Ythiignohbooelaa.H
/- Layer 1, part 1: primes, powers, polynomials' form, codes, trimming. What the printed functions answer. -/
set_option linter.unusedVariables false
set_option linter.unusedSimpArgs false
namespace Go.Proofs.Ythiignohbooelaa.H
open Go.RowKit Go.Proofs.YthiignohbooelaaW.PrintWords Go.Proofs.YthiignohbooelaaW.PrintLast Go.Proofs.Ythiignohbooelaa.Num
theorem spec_prime (p : Int) : Ev (fun k => spec_l01Prime.f k p) (primeB p) := by
  refine ⟨200, fun k hk => ?_⟩
  unfold spec_l01Prime.f spec_l01In.f
  by_cases h1 : p ≥ 2
  · by_cases h2 : p ≤ 10007
    · obtain ⟨b, hb, hiff⟩ := prime_loop spec_l01Prime.l0 p h1 h2 (fun k i => rfl) 102 k 2 (by omega) (by omega) (by omega) (by omega)
      simp only [if_pos h1, Option.bind_some, decide_eq_true h2, if_true, hb, primeB_loop h1 h2 hiff]
    · simp [if_pos h1, decide_eq_false h2, primeB_hi h2]
  · simp [if_neg h1, primeB_lo h1]
theorem impl_prime (p : Int) : Ev (fun k => impl_IsPrime.f k p) (primeB p) := by
  refine ⟨200, fun k hk => ?_⟩
  unfold impl_IsPrime.f impl_within.f
  by_cases h1 : 2 ≤ p
  · by_cases h2 : p ≤ 10007
    · obtain ⟨b, hb, hiff⟩ := prime_loop impl_IsPrime.l0 p h1 h2 (fun k i => rfl) 102 k 2 (by omega) (by omega) (by omega) (by omega)
      simp only [if_pos h1, Option.bind_some, decide_eq_true h2, if_true, hb, primeB_loop h1 h2 hiff]
    · simp [if_pos h1, decide_eq_false h2, primeB_hi h2]
  · simp [if_neg h1, primeB_lo h1]
theorem spec_mod {p x : Int} (hp : 0 < p) (hp2 : p ≤ 1000000000) : spec_l01Mod.f p x = some (x % p) := by
  unfold spec_l01Mod.f; rw [if_neg (by omega), md hp hp2]
theorem impl_mod {p x : Int} (hp : 0 < p) (hp2 : p ≤ 1000000000) : impl_field_mod.f p x = some (x % p) := by
  unfold impl_field_mod.f; rw [if_neg (by omega), md hp hp2]
theorem impl_mul {p x y : Int} (hp : 0 < p) (hp2 : p ≤ 1000000000) (h1 : -9223372036854775808 ≤ x * y) (h2 : x * y ≤ 9223372036854775807) : impl_field_mul.f p x y = some (x * y % p) := by
  unfold impl_field_mul.f; rw [impl_mod hp hp2, w64 h1 h2]; rfl
theorem spec_power {p x e : Int} (hp : 2 ≤ p) (hp2 : p ≤ 10007) (e0 : 0 ≤ e) (e1 : e ≤ 1000000000) : Ev (fun k => spec_l01Power.f k p x e) (x ^ e.toNat % p) := by
  refine ⟨e.toNat + 2, fun k hk => ?_⟩
  have hb := emod_bd (x := x) (p := p) (by omega)
  simp only [spec_l01Power.f, spec_mod (show 0 < p by omega) (show p ≤ 1000000000 by omega), Option.bind_some]
  rw [pow_loop spec_l01Power.l0 (fun p out => some (Int.tmod out p)) (fun y => Int.tmod y p) p hp (by omega) (fun y hy => tmod_nn hy) (fun k e out x => by
      simp only [spec_l01Power.l0, if_neg (show ¬ p = 0 by omega)]) (e.toNat + 1) k e 1 (x % p) (by omega) (by omega) e0 e1 (by omega) (by omega) hb.1 hb.2]
  rw [Int.one_mul, pow_emod, tmod_nn (emod_bd (by omega)).1, Int.emod_emod]
theorem impl_power {p x e : Int} (hp : 2 ≤ p) (hp2 : p ≤ 10007) (x0 : 0 ≤ x) (x1 : x < p) (e0 : 0 ≤ e) (e1 : e ≤ 1000000000) : Ev (fun k => impl_field_power.f k p x e) (x ^ e.toNat % p) := by
  refine ⟨e.toNat + 2, fun k hk => ?_⟩
  simp only [impl_field_power.f, impl_mod (show 0 < p by omega) (show p ≤ 1000000000 by omega), Option.bind_some]
  rw [Int.emod_eq_of_lt (a := 1) (by omega) (by omega)]
  rw [pow_loop (fun k p e out x => impl_field_power.l0 k p x e out) (fun p out => some out) (fun y => y % p) p hp (by omega) (fun y hy => rfl) (fun k e out x => by
      simp only [impl_field_power.l0, impl_field_mul.f, impl_mod (show 0 < p by omega) (show p ≤ 1000000000 by omega), Option.bind_some]) (e.toNat + 1) k e 1 x (by omega) (by omega) e0 e1 (by omega) (by omega) x0 x1]
  rw [Int.one_mul]
theorem spec_inverse {p x : Int} (hp : 2 ≤ p) (hp2 : p ≤ 10007) : Ev (fun k => spec_l01Inverse.f k p x) (x ^ (p - 2).toNat % p) := by
  obtain ⟨K, h⟩ := spec_power (x := x) (e := p - 2) hp hp2 (by omega) (by omega)
  refine ⟨K, fun k hk => ?_⟩
  have hw : wrap64 (p - 2) = p - 2 := w64 (by omega) (by omega)
  have e := h k hk
  simp only at e
  simp only [spec_l01Inverse.f, hw, e, Option.bind_some]
theorem impl_inverse {p x : Int} (hp : 2 ≤ p) (hp2 : p ≤ 10007) (x0 : 0 ≤ x) (x1 : x < p) : Ev (fun k => impl_field_inverse.f k p x) (x ^ (p - 2).toNat % p) := by
  obtain ⟨K, h⟩ := impl_power (x := x) (e := p - 2) hp hp2 x0 x1 (by omega) (by omega)
  refine ⟨K, fun k hk => ?_⟩
  have hw : wrap64 (p - 2) = p - 2 := w64 (by omega) (by omega)
  have e := h k hk
  simp only at e
  simp only [impl_field_inverse.f, hw, e, Option.bind_some]
/-! ## polynomials -/
theorem hasB_iff {p x : Int} : hasB p x = true ↔ 0 ≤ x ∧ x < p := by unfold hasB; simp
theorem poly_loop (p : Int) (l : List Int) (hl : l.length ≤ 1000000000) (d : Nat) : ∀ (k i : Nat), i + d = l.length → d < k → spec_l01Poly.l0 k p l (i : Int) = some ((l.drop i).all (hasB p) && (decide (l.length ≤ 25) && (decide (l.length = 0) || decide (rd l ((l.length : Int) - 1) ≠ 0)))) := by
  induction d with
  | zero =>
    intro k i h1 hk
    obtain ⟨k, rfl⟩ : ∃ m, k = m + 1 := ⟨k - 1, by omega⟩
    simp only [spec_l01Poly.l0]
    rw [if_neg (by omega), List.drop_of_length_le (by omega)]
    by_cases h25 : l.length ≤ 25
    · rw [if_pos (by omega)]
      by_cases h0 : l.length = 0
      · rw [if_pos (by omega)]; simp [h0]
      · have hw : wrap64 ((l.length : Int) - 1) = (l.length : Int) - 1 := w64 (by omega) (by omega)
        rw [if_neg (by omega), hw, if_pos (by omega), if_pos (by omega)]
        simp [h25, h0, bne]
        rfl
    · rw [if_neg (by omega)]; simp [h25]
  | succ d ih =>
    intro k i h1 hk
    obtain ⟨k, rfl⟩ : ∃ m, k = m + 1 := ⟨k - 1, by omega⟩
    simp only [spec_l01Poly.l0]
    rw [if_pos (by omega), if_pos (by omega), rd_lt l i (by omega), wn (by omega), ih k (i + 1) (by omega) (by omega), List.drop_eq_getElem_cons (show i < l.length by omega), List.all_cons]
    by_cases h0 : l[i] < 0
    · rw [if_pos h0]; simp [hasB]; omega
    · rw [if_neg h0]
      by_cases hp : l[i] ≥ p
      · rw [if_pos hp]; simp [hasB]; omega
      · rw [if_neg hp]
        have : hasB p l[i] = true := hasB_iff.2 (by omega)
        rw [this, Bool.true_and]
theorem spec_poly (p : Int) (l : List Int) (hl : l.length ≤ 1000000000) : Ev (fun k => spec_l01Poly.f k p l) (polyB p l) := by
  refine ⟨l.length + 2, fun k hk => ?_⟩
  unfold spec_l01Poly.f
  have h := poly_loop p l hl l.length k 0 (by omega) (by omega)
  simp only [Int.natCast_zero, List.drop_zero] at h
  show spec_l01Poly.l0 k p l 0 = _
  rw [h]
  unfold polyB
  cases decide (l.length ≤ 25) <;> simp [Bool.and_comm]
/-- what it says of a list that it is a polynomial -/
structure Po (p : Int) (l : List Int) : Prop where
  len : l.length ≤ 25
  el : ∀ x ∈ l, 0 ≤ x ∧ x < p
  last : l.length = 0 ∨ rd l ((l.length : Int) - 1) ≠ 0
theorem polyB_iff {p : Int} {l : List Int} : polyB p l = true ↔ Po p l := by
  unfold polyB
  simp only [Bool.and_eq_true, Bool.or_eq_true, decide_eq_true_eq, List.all_eq_true, hasB_iff]
  exact ⟨fun ⟨⟨a, b⟩, c⟩ => ⟨a, b, c⟩, fun h => ⟨⟨h.len, h.el⟩, h.last⟩⟩
/-- the code of a prime and polynomials -/
noncomputable def codeL (p : Int) (b : Bool) (ls : List (List Int)) : Int := if ls.all (polyB p) = true then (if (primeB p && b) = true then 0 else 2) else 1
theorem code_loop (p : Int) (ls : List (List Int)) (hl : ls.length ≤ 1000000000) (hls : ∀ l ∈ ls, l.length ≤ 1000000000) (K : Nat) (hK : ∀ l ∈ ls, ∀ k, K ≤ k → spec_l01Poly.f k p l = some (polyB p l)) (hP : ∀ k, K ≤ k → spec_l01Prime.f k p = some (primeB p)) (d : Nat) :
    ∀ (k i : Nat), i + d = ls.length → K + d < k → spec_l01Code.l0 k p ls (i : Int) = some (codeL p true (ls.drop i)) := by
  induction d with
  | zero =>
    intro k i h1 hk
    obtain ⟨k, rfl⟩ : ∃ m, k = m + 1 := ⟨k - 1, by omega⟩
    simp only [spec_l01Code.l0]
    rw [if_neg (by omega), List.drop_of_length_le (by omega), hP k (by omega)]
    simp [codeL]
    cases primeB p <;> simp
  | succ d ih =>
    intro k i h1 hk
    obtain ⟨k, rfl⟩ : ∃ m, k = m + 1 := ⟨k - 1, by omega⟩
    simp only [spec_l01Code.l0]
    have hrd : rd_L2 ls (i : Int) = ls[i]'(by omega) := by
      simp [rd_L2, List.getD_eq_getElem?_getD, show i < ls.length by omega]
    rw [if_pos (by omega), if_pos (by omega), hrd, hK _ (List.getElem_mem _) k (by omega), Option.bind_some, wn (by omega), ih k (i + 1) (by omega) (by omega), List.drop_eq_getElem_cons (show i < ls.length by omega)]
    cases hq : polyB p (ls[i]'(by omega)) with
    | true => simp only [codeL, List.all_cons, hq, Bool.true_and, if_true]
    | false => simp [codeL, List.all_cons, hq, -List.getElem_cons_drop]
theorem spec_code (p : Int) (ls : List (List Int)) (hl : ls.length ≤ 1000000) (hls : ∀ l ∈ ls, l.length ≤ 1000000000) : Ev (fun k => spec_l01Code.f k p ls) (codeL p true ls) := by
  obtain ⟨K1, h1⟩ : ∃ K, ∀ l ∈ ls, ∀ k, K ≤ k → spec_l01Poly.f k p l = some (polyB p l) := by
    clear hl
    induction ls with
    | nil => exact ⟨0, fun l hl => by simp at hl⟩
    | cons a ls ih =>
      obtain ⟨K, h⟩ := ih (fun l hl => hls l (by simp [hl]))
      obtain ⟨K', h'⟩ := spec_poly p a (hls a (by simp))
      refine ⟨K + K', fun l hl k hk => ?_⟩
      rcases List.mem_cons.1 hl with rfl | hl
      · exact h' k (by omega)
      · exact h l hl k (by omega)
  obtain ⟨K2, h2⟩ := spec_prime p
  refine ⟨K1 + K2 + ls.length + 2, fun k hk => ?_⟩
  unfold spec_l01Code.f
  exact code_loop p ls (by omega) hls (K1 + K2) (fun l hl k hk => h1 l hl k (by omega)) (fun k hk => h2 k (by omega)) ls.length k 0 (by omega) (by omega)
theorem impl_code1 (p : Int) (b : Bool) (l : List Int) : Ev (fun k => impl_polyCode_1.f k p b l) (codeL p b [l]) := by
  obtain ⟨K, h⟩ := impl_prime p
  refine ⟨K, fun k hk => ?_⟩
  have e := h k hk
  simp only at e
  simp only [impl_polyCode_1.f, codeL, e, Option.bind_some, List.all_cons, List.all_nil, Bool.and_true]
  split <;> rfl
theorem codeL_0 {p : Int} {b : Bool} {ls : List (List Int)} (h : codeL p b ls = 0) : IsP p ∧ b = true ∧ ∀ l ∈ ls, Po p l := by
  unfold codeL at h
  split at h
  · split at h
    · rename_i h1 h2
      simp only [Bool.and_eq_true] at h2
      exact ⟨primeB_iff.1 h2.1, h2.2, fun l hl => polyB_iff.1 (List.all_eq_true.1 h1 l hl)⟩
    · cases h
  · cases h
/-! ## trimming -/
def tlen (l : List Int) : Nat → Nat
  | 0 => 0
  | n + 1 => if l.getD n 0 = 0 then tlen l n else n + 1
def trimL (l : List Int) : List Int := l.take (tlen l l.length)
theorem tlen_le (l : List Int) : ∀ n, tlen l n ≤ n
  | 0 => Nat.le_refl _
  | n + 1 => by unfold tlen; split; (have := tlen_le l n; omega); omega
theorem tlen_take (l : List Int) (m : Nat) : ∀ n, n ≤ m → tlen (l.take m) n = tlen l n
  | 0, _ => rfl
  | n + 1, h => by
    have e : (l.take m).getD n 0 = l.getD n 0 := by simp [List.getD_eq_getElem?_getD, show n < m by omega]
    unfold tlen
    rw [e, tlen_take l m n (by omega)]
theorem own_some (l : List Int) (h : l.length < 17592186044416) : spec_l01Own.f l = some l := by
  simp [spec_l01Own.f, h]
theorem specTrim_loop (l : List Int) (hl : l.length ≤ 1000000000) : ∀ (n k : Nat), n ≤ l.length → n < k → spec_l01Trim.l0 k l (n : Int) = some (l.take (tlen l n))
  | 0, k, h, hk => by
    obtain ⟨k, rfl⟩ : ∃ m, k = m + 1 := ⟨k - 1, by omega⟩
    simp only [spec_l01Trim.l0]
    rw [if_neg (by omega), if_pos (by omega), if_pos (by omega), own_some _ (by rw [List.length_take]; omega)]
    simp [tlen]
  | n + 1, k, h, hk => by
    obtain ⟨k, rfl⟩ : ∃ m, k = m + 1 := ⟨k - 1, by omega⟩
    simp only [spec_l01Trim.l0]
    have hw : wrap64 (((n + 1 : Nat) : Int) - 1) = (n : Int) := by rw [w64 (by omega) (by omega)]; omega
    rw [if_pos (by omega), hw, if_pos (by omega), if_pos (by omega), rd_nat]
    by_cases h0 : l.getD n 0 = 0
    · rw [if_pos h0, specTrim_loop l hl n k (by omega) (by omega)]
      simp only [tlen, if_pos h0]
    · rw [if_neg h0, if_pos (by omega), if_pos (by omega), own_some _ (by rw [List.length_take]; omega), Int.toNat_natCast]
      simp only [tlen, if_neg h0, Option.bind_some]
theorem spec_trim (l : List Int) (hl : l.length ≤ 1000000000) : Ev (fun k => spec_l01Trim.f k l) (trimL l) :=
  ⟨l.length + 2, fun k hk => specTrim_loop l hl l.length k (Nat.le_refl _) (by omega)⟩
theorem implTrim_loop : ∀ (n k : Nat) (l : List Int), l.length = n → n ≤ 1000000000 → n < k → impl_trimmed.l0 k l = some (trimL l)
  | 0, k, l, h, hl, hk => by
    obtain ⟨k, rfl⟩ : ∃ m, k = m + 1 := ⟨k - 1, by omega⟩
    simp only [impl_trimmed.l0]
    rw [if_neg (by omega)]
    simp [trimL, h, List.eq_nil_of_length_eq_zero h]
  | n + 1, k, l, h, hl, hk => by
    obtain ⟨k, rfl⟩ : ∃ m, k = m + 1 := ⟨k - 1, by omega⟩
    simp only [impl_trimmed.l0]
    have hw : wrap64 ((l.length : Int) - 1) = (n : Int) := by rw [w64 (by omega) (by omega)]; omega
    rw [if_pos (by omega), hw, if_pos (by omega), if_pos (by omega), rd_nat, Int.toNat_natCast]
    by_cases h0 : l.getD n 0 = 0
    · rw [if_pos h0, if_pos (by omega), implTrim_loop n k (l.take n) (by simp; omega) (by omega) (by omega)]
      simp only [trimL, h, tlen, if_pos h0]
      rw [show (l.take n).length = n by simp [h], tlen_take l n n (Nat.le_refl _), List.take_take]
      congr 2
      have := tlen_le l n
      omega
    · rw [if_neg h0]
      simp only [trimL, h, tlen, if_neg h0]
      rw [List.take_of_length_le (by omega)]
theorem impl_trim (l : List Int) (hl : l.length ≤ 1000000000) : Ev (fun k => impl_trimmed.f k l) (trimL l) :=
  ⟨l.length + 2, fun k hk => implTrim_loop l.length k l rfl hl (by omega)⟩
theorem trimL_len (l : List Int) : (trimL l).length ≤ l.length := by unfold trimL; rw [List.length_take]; omega
end Go.Proofs.Ythiignohbooelaa.H
