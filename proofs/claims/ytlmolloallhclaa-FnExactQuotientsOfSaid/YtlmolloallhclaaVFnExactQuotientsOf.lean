/- Plain laws that the claim of FnExactQuotientsOf reaches: numbers modulo a prime, lists, and what the printed functions answer. -/
import Derived.RowKit
import Derived.Test.YtlmolloallhclaaYWWords
import Derived.Test.YtlmolloallhclaaYWMore
import Derived.Test.YtlmolloallhclaaYHx0
import Derived.Test.YtlmolloallhclaaMa3
import Derived.Test.YtlmolloallhclaaMa4
import Derived.Test.YtlmolloallhclaaMa1
import Derived.Test.YtlmolloallhclaaMa2
import Derived.Test.YtlmolloallhclaaMa5
import Derived.Test.YtlmolloallhclaaMa8
import Derived.Test.YtlmolloallhclaaMa6
import Derived.Test.YtlmolloallhclaaMa7
set_option linter.unusedVariables false
set_option linter.unusedSimpArgs false
namespace Go.Proofs.Ytlmolloallhclaa.Num
open Go.RowKit
theorem w64 {x : Int} (h1 : -9223372036854775808 ≤ x) (h2 : x ≤ 9223372036854775807) : wrap64 x = x := by
 unfold wrap64; omega
theorem tmod_nn {a b : Int} (h : 0 ≤ a) : Int.tmod a b = a % b := Int.tmod_eq_emod_of_nonneg h
theorem tmod_lt' {x p : Int} (hp : 0 < p) : Int.tmod x p < p ∧ -p < Int.tmod x p := by
 constructor
 ·
  exact Int.tmod_lt_of_pos x hp
 ·
  have h := Int.tmod_lt_of_pos (-x) hp
  rw [Int.neg_tmod] at h
  omega
theorem md {x p : Int} (hp : 0 < p) (hp2 : p ≤ 1000000000) : Int.tmod (wrap64 (Int.tmod x p + p)) p = x % p := by
 obtain ⟨h1, h2⟩ := tmod_lt' (x := x) hp
 rw [w64 (by omega) (by omega), tmod_nn (by omega), Int.tmod_def]
 have : x - p * x.tdiv p + p = x + p * (1 - x.tdiv p) := by
  rw [Int.mul_sub]; omega
 rw [this, Int.add_mul_emod_self_left]
theorem emod_bd {x p : Int} (hp : 0 < p) : 0 ≤ x % p ∧ x % p < p := ⟨Int.emod_nonneg _ (by omega), Int.emod_lt_of_pos _ hp⟩
theorem mul_bd {x y a b : Int} (hx0 : 0 ≤ x) (hx : x ≤ a) (hy0 : 0 ≤ y) (hy : y ≤ b) : 0 ≤ x * y ∧ x * y ≤ a * b :=
 ⟨Int.mul_nonneg hx0 hy0, Int.mul_le_mul hx hy hy0 (by omega)⟩
theorem em_l (a b p : Int) : a % p * b % p = a * b % p := by rw [Int.mul_emod, Int.emod_emod, ← Int.mul_emod]
def Pr (p : Nat) : Prop := 2 ≤ p ∧ ∀ d, d ∣ p → d = 1 ∨ d = p
theorem Pr.of_trial {p : Nat} (h2 : 2 ≤ p) (h : ∀ d, 2 ≤ d → d * d ≤ p → p % d ≠ 0) : Pr p := by
 refine ⟨h2, fun d hd => ?_⟩
 obtain ⟨e, he⟩ := hd
 have hd0 : 0 < d := by rcases Nat.eq_zero_or_pos d with h0 | h0; (subst h0; simp at he; omega); exact h0
 have he0 : 0 < e := by rcases Nat.eq_zero_or_pos e with h0 | h0; (subst h0; simp at he; omega); exact h0
 rcases Nat.lt_or_ge d 2 with h1 | h1
 ·
  left; omega
 rcases Nat.lt_or_ge e 2 with h3 | h3
 ·
  right
  have : e = 1 := by omega
  subst this; simpa using he.symm
 ·
  exfalso
  rcases Nat.le_total d e with hle | hle
  ·
   refine h d h1 ?_ ?_
   ·
    rw [he]; exact Nat.mul_le_mul_left d hle
   ·
    rw [he]; exact Nat.mul_mod_right d e
  ·
   refine h e h3 ?_ ?_
   ·
    rw [he]; exact Nat.mul_le_mul_right e hle
   ·
    rw [he]; exact Nat.mul_mod_left d e
theorem Pr.cop {p a : Nat} (hp : Pr p) (ha : ¬ p ∣ a) : Nat.Coprime p a := by
 rcases hp.2 _ (Nat.gcd_dvd_left p a) with h | h
 ·
  exact h
 ·
  exact absurd (h ▸ Nat.gcd_dvd_right p a) ha
theorem Pr.euclid {p a b : Nat} (hp : Pr p) (h : p ∣ a * b) : p ∣ a ∨ p ∣ b := by
 by_cases ha : p ∣ a
 ·
  exact .inl ha
 ·
  exact .inr ((hp.cop ha).dvd_of_dvd_mul_left h)
theorem Pr.pow {p a : Nat} (hp : Pr p) (ha : ¬ p ∣ a) : ∀ n, ¬ p ∣ a ^ n
 | 0 => fun h => by
  have h1 := Nat.le_of_dvd (by simp) h
  have := hp.1
  simp only [Nat.pow_zero] at h1
  omega
 | n + 1 => fun h => by
  rw [Nat.pow_succ] at h
  rcases hp.euclid h with h | h
  ·
   exact Pr.pow hp ha n h
  ·
   exact ha h
def ch : Nat → Nat → Nat
 | _, 0 => 1
 | 0, _ + 1 => 0
 | n + 1, k + 1 => ch n k + ch n (k + 1)
theorem ch_gt : ∀ n k, n < k → ch n k = 0
 | 0, k + 1, _ => by simp [ch]
 | n + 1, k + 1, h => by simp [ch, ch_gt n k (by omega), ch_gt n (k + 1) (by omega)]
theorem ch_self : ∀ n, ch n n = 1
 | 0 => by simp [ch]
 | n + 1 => by simp [ch, ch_self n, ch_gt n (n + 1) (by omega)]
theorem ch_mul : ∀ n k, (k + 1) * ch (n + 1) (k + 1) = (n + 1) * ch n k
 | 0, 0 => by simp [ch]
 | 0, k + 1 => by simp [ch]
 | n + 1, 0 => by
  have h := ch_mul n 0
  have h0 : ch n 0 = 1 := by cases n <;> simp [ch]
  have h00 : ch (n+1) 0 = 1 := by simp [ch]
  have e : ch (n + 1 + 1) (0 + 1) = ch (n + 1) 0 + ch (n + 1) (0 + 1) := by simp [ch]
  rw [e, h00]
  rw [h0] at h
  omega
 | n + 1, k + 1 => by
  have h1 := ch_mul n k
  have h2 := ch_mul n (k + 1)
  have e1 : ch (n + 1 + 1) (k + 1 + 1) = ch (n + 1) (k + 1) + ch (n + 1) (k + 1 + 1) := by simp [ch]
  have e2 : ch (n + 1) (k + 1) = ch n k + ch n (k + 1) := by simp [ch]
  rw [e1, Nat.mul_add]
  rw [h2]
  have : (k + 1 + 1) * ch (n + 1) (k + 1) = ch (n + 1) (k + 1) + (k + 1) * ch (n + 1) (k + 1) := by
   rw [Nat.add_mul (k+1) 1, Nat.one_mul]; omega
  rw [this, h1]
  have e3 : (n + 1 + 1) * ch (n + 1) (k + 1) = (n + 1) * ch (n + 1) (k + 1) + ch (n + 1) (k + 1) := by rw [Nat.add_mul, Nat.one_mul]
  rw [e3, e2, Nat.mul_add]
  omega
def sm (f : Nat → Nat) : Nat → Nat
 | 0 => 0
 | n + 1 => sm f n + f n
theorem sm_head (f : Nat → Nat) : ∀ n, sm f (n + 1) = f 0 + sm (fun k => f (k + 1)) n
 | 0 => by simp [sm]
 | n + 1 => by
  have h := sm_head f n
  rw [show sm f (n + 1 + 1) = sm f (n + 1) + f (n + 1) from rfl, h]
  simp only [sm]; omega
theorem sm_add (f g : Nat → Nat) : ∀ n, sm (fun k => f k + g k) n = sm f n + sm g n
 | 0 => rfl
 | n + 1 => by simp only [sm, sm_add f g n]; omega
theorem sm_mul (a : Nat) (f : Nat → Nat) : ∀ n, sm (fun k => a * f k) n = a * sm f n
 | 0 => rfl
 | n + 1 => by simp only [sm, sm_mul a f n]; rw [Nat.mul_add]
theorem sm_congr {f g : Nat → Nat} (h : ∀ k, f k = g k) (n : Nat) : sm f n = sm g n := by
 have : f = g := funext h
 rw [this]
theorem binom (a : Nat) : ∀ n, (a + 1) ^ n = sm (fun k => ch n k * a ^ k) (n + 1)
 | 0 => by simp [sm, ch]
 | n + 1 => by
  rw [Nat.pow_succ, binom a n, sm_head (fun k => ch (n + 1) k * a ^ k) (n + 1)]
  have e : sm (fun k => ch (n + 1) (k + 1) * a ^ (k + 1)) (n + 1) = sm (fun k => a * (ch n k * a ^ k)) (n + 1) + sm (fun k => ch n (k + 1) * a ^ (k + 1)) (n + 1) := by
   rw [← sm_add]
   refine sm_congr (fun k => ?_) _
   simp only [ch]
   rw [Nat.add_mul, Nat.pow_succ]
   have : ch n k * (a ^ k * a) = a * (ch n k * a ^ k) := by
    rw [← Nat.mul_assoc, Nat.mul_comm]
   rw [this]
  rw [e, sm_mul]
  have e2 : sm (fun k => ch n (k + 1) * a ^ (k + 1)) (n + 1) = sm (fun k => ch n (k + 1) * a ^ (k + 1)) n := by
   simp only [sm]; rw [ch_gt n (n + 1) (by omega)]; simp
  rw [e2]
  have e3 := sm_head (fun k => ch n k * a ^ k) n
  have h0 : ch n 0 = 1 := by cases n <;> simp [ch]
  have h00 : ch (n+1) 0 = 1 := by simp [ch]
  rw [h0] at e3
  rw [h00]
  simp only [Nat.pow_zero, Nat.mul_one] at e3 ⊢
  rw [Nat.mul_add, Nat.mul_one, Nat.mul_comm a]
  omega
theorem sm_dvd {p : Nat} (f : Nat → Nat) : ∀ n, (∀ k, k < n → p ∣ f k) → p ∣ sm f n
 | 0, _ => ⟨0, rfl⟩
 | n + 1, h => Nat.dvd_add (sm_dvd f n fun k hk => h k (by omega)) (h n (by omega))
theorem Pr.ch_dvd {p k : Nat} (hp : Pr p) (h0 : 0 < k) (h1 : k < p) : p ∣ ch p k := by
 obtain ⟨q, rfl⟩ : ∃ q, p = q + 1 := ⟨p - 1, by omega⟩
 obtain ⟨j, rfl⟩ : ∃ j, k = j + 1 := ⟨k - 1, by omega⟩
 have h := ch_mul q j
 have hd : (q + 1) ∣ (j + 1) * ch (q + 1) (j + 1) := ⟨ch q j, h⟩
 rcases hp.euclid hd with h' | h'
 ·
  have := Nat.le_of_dvd (by omega) h'; omega
 ·
  exact h'
theorem Pr.fermat {p : Nat} (hp : Pr p) : ∀ a, a ^ p % p = a % p
 | 0 => by rw [Nat.zero_pow (by have := hp.1; omega)]
 | a + 1 => by
  have ih := Pr.fermat hp a
  rw [binom a p, sm_head]
  obtain ⟨q, hq⟩ : ∃ q, p = q + 1 := ⟨p - 1, by have := hp.1; omega⟩
  have h0 : ch p 0 * a ^ 0 = 1 := by rw [hq]; simp [ch]
  have e : sm (fun k => ch p (k + 1) * a ^ (k + 1)) p = sm (fun k => ch p (k + 1) * a ^ (k + 1)) q + a ^ p := by
   rw [hq]; simp only [sm]; rw [ch_self, Nat.one_mul]
  rw [h0, e]
  have hd : p ∣ sm (fun k => ch p (k + 1) * a ^ (k + 1)) q :=
   sm_dvd _ q fun k hk => Nat.dvd_trans (hp.ch_dvd (by omega) (by omega)) (Nat.dvd_mul_right _ _)
  obtain ⟨c, hc⟩ := hd
  rw [hc]
  rw [show 1 + (p * c + a ^ p) = (1 + a ^ p) + p * c by omega, Nat.add_mul_mod_self_left, Nat.add_mod, ih, ← Nat.add_mod, Nat.add_comm]
theorem dvd_sub_of_mod {p a b : Nat} (hle : a ≤ b) (h : a % p = b % p) : p ∣ b - a := by
 refine ⟨b / p - a / p, ?_⟩
 have h1 := Nat.div_add_mod a p
 have h2 := Nat.div_add_mod b p
 rw [Nat.mul_sub]
 omega
theorem Pr.fermat1 {p a : Nat} (hp : Pr p) (ha : ¬ p ∣ a) : a ^ (p - 1) % p = 1 := by
 have h := hp.fermat a
 obtain ⟨q, hq⟩ : ∃ q, p = q + 1 := ⟨p - 1, by have := hp.1; omega⟩
 have ha0 : 1 ≤ a ^ q := Nat.one_le_iff_ne_zero.mpr (by
  intro h0
  have : a = 0 := by
   rcases Nat.eq_zero_or_pos a with h1 | h1
   ·
    exact h1
   ·
    have := Nat.pow_pos (n := q) h1; omega
  exact ha (this ▸ ⟨0, rfl⟩))
 have hd : p ∣ a * (a ^ q - 1) := by
  have e : a * (a ^ q - 1) = a ^ p - a := by rw [hq, Nat.pow_succ, Nat.mul_sub, Nat.mul_one, Nat.mul_comm]
  rw [e]
  have hle : a ≤ a ^ p := by rw [hq, Nat.pow_succ]; exact Nat.le_mul_of_pos_left a ha0
  exact dvd_sub_of_mod hle h.symm
 rcases hp.euclid hd with h' | h'
 ·
  exact absurd h' ha
 ·
  rw [show p - 1 = q by omega]
  obtain ⟨c, hc⟩ := h'
  have h1 : (1 : Nat) % p = 1 := Nat.mod_eq_of_lt (by have := hp.1; omega)
  have e : a ^ q = 1 + p * c := by omega
  rw [e, Nat.add_mul_mod_self_left, h1]
theorem pow_emod (p x : Int) (n : Nat) : (x % p) ^ n % p = x ^ n % p := by
 induction n with
 | zero => simp
 | succ n ih => rw [Int.pow_succ, Int.pow_succ, Int.mul_emod, ih, Int.emod_emod_of_dvd _ (Int.dvd_refl p), ← Int.mul_emod]
theorem pw_step {p : Int} (out x : Int) (n : Nat) : out * (x * x % p) ^ n % p = out * x ^ (2 * n) % p := by
 rw [Int.mul_emod, pow_emod, ← Int.mul_emod, Int.pow_mul, show x ^ 2 = x * x by rw [Int.pow_succ, Int.pow_succ, Int.pow_zero, Int.one_mul]]
theorem pow_loop (l : Nat → Int → Int → Int → Int → Option Int) (fin : Int → Int → Option Int) (m : Int → Int) (p : Int) (hp : 2 ≤ p) (hp2 : p ≤ 1000000) (hm : ∀ y, 0 ≤ y → m y = y % p)
  (hl : ∀ k e out x, l (k + 1) p e out x = if e > 0 then (if Int.tmod e 2 = 1 then l k p (wrap64 (Int.tdiv e 2)) (m (wrap64 (out * x))) (m (wrap64 (x * x))) else l k p (wrap64 (Int.tdiv e 2)) out (m (wrap64 (x * x)))) else fin p out)
  (d : Nat) : ∀ (k : Nat) (e out x : Int), e < d → d < k → 0 ≤ e → e ≤ 1000000000 → 0 ≤ out → out < p → 0 ≤ x → x < p → l k p e out x = fin p (out * x ^ e.toNat % p) := by
 induction d with
 | zero => intro k e out x h; omega
 | succ d ih =>
  intro k e out x he hk h0 h9 o0 o1 x0 x1
  obtain ⟨k, rfl⟩ : ∃ m, k = m + 1 := ⟨k - 1, by omega⟩
  rw [hl]
  by_cases h : e > 0
  ·
   rw [if_pos h]
   have hb1 := mul_bd (a := 1000000) (b := 1000000) o0 (by omega) x0 (by omega)
   have hb2 := mul_bd (a := 1000000) (b := 1000000) x0 (by omega) x0 (by omega)
   have e1 : Int.tdiv e 2 = e / 2 := Int.tdiv_eq_ediv_of_nonneg h0
   have e2 : Int.tmod e 2 = e % 2 := tmod_nn h0
   have ew : wrap64 (e / 2) = e / 2 := w64 (by omega) (by omega)
   rw [e1, e2, ew, w64 (x := out * x) (by omega) (by omega), w64 (x := x * x) (by omega) (by omega), hm _ hb1.1, hm _ hb2.1]
   have b2 := emod_bd (x := x * x) (p := p) (by omega)
   have b1 := emod_bd (x := out * x) (p := p) (by omega)
   by_cases h1 : e % 2 = 1
   ·
    rw [if_pos h1, ih k (e / 2) (out * x % p) (x * x % p) (by omega) (by omega) (by omega) (by omega) b1.1 b1.2 b2.1 b2.2, pw_step]
    have hn : e.toNat = 2 * (e / 2).toNat + 1 := by omega
    rw [hn, Int.pow_succ, em_l]
    have : out * x * x ^ (2 * (e / 2).toNat) = out * (x ^ (2 * (e / 2).toNat) * x) := by
     rw [Int.mul_assoc, Int.mul_comm x]
    rw [this]
   ·
    rw [if_neg h1, ih k (e / 2) out (x * x % p) (by omega) (by omega) (by omega) (by omega) o0 o1 b2.1 b2.2, pw_step]
    have hn : e.toNat = 2 * (e / 2).toNat := by omega
    rw [hn]
  ·
   rw [if_neg h]
   have hz : e.toNat = 0 := by omega
   rw [hz, Int.pow_zero, Int.mul_one, Int.emod_eq_of_lt o0 o1]
def IsP (p : Int) : Prop := 2 ≤ p ∧ p ≤ 10007 ∧ Pr p.toNat
open Classical in
noncomputable def primeB (p : Int) : Bool := decide (IsP p)
theorem primeB_iff {p : Int} : primeB p = true ↔ IsP p := by
 unfold primeB; exact @decide_eq_true_iff _ (Classical.propDecidable _)
theorem prime_loop (l : Nat → Int → Int → Option Bool) (p : Int) (hp : 2 ≤ p) (hp2 : p ≤ 10007)
  (hl : ∀ k i, l (k + 1) p i = if wrap64 (i * i) ≤ p then (if i = 0 then none else (if Int.tmod p i = 0 then some false else l k p (wrap64 (i + 1)))) else some true)
  (d : Nat) : ∀ (k : Nat) (i : Int), 2 ≤ i → i ≤ 101 → 101 - i < d → d < k →
   ∃ b, l k p i = some b ∧ (b = true ↔ ∀ j : Int, i ≤ j → j * j ≤ p → p % j ≠ 0) := by
 induction d with
 | zero => intro k i h1 h2 h3; omega
 | succ d ih =>
  intro k i h1 h2 h3 hk
  obtain ⟨k, rfl⟩ : ∃ m, k = m + 1 := ⟨k - 1, by omega⟩
  rw [hl]
  have hb := mul_bd (a := 101) (b := 101) (x := i) (y := i) (by omega) h2 (by omega) h2
  rw [w64 (by omega) (by omega), w64 (x := i + 1) (by omega) (by omega)]
  by_cases hle : i * i ≤ p
  ·
   have hi : i ≤ 100 := by
    rcases Int.lt_or_le 100 i with h | h
    ·
     have := Int.mul_le_mul (a := 101) (b := 101) (c := i) (d := i) (by omega) (by omega) (by omega) (by omega); omega
    ·
     exact h
   rw [if_pos hle, if_neg (by omega), tmod_nn (by omega)]
   by_cases hd : p % i = 0
   ·
    rw [if_pos hd]
    exact ⟨false, rfl, by simp; exact ⟨i, Int.le_refl _, hle, hd⟩⟩
   ·
    rw [if_neg hd]
    obtain ⟨b, hb1, hb2⟩ := ih k (i + 1) (by omega) (by omega) (by omega) (by omega)
    refine ⟨b, hb1, hb2.trans ⟨fun h j hj hjj => ?_, fun h j hj hjj => h j (by omega) hjj⟩⟩
    by_cases e : j = i
    ·
     subst e; exact hd
    ·
     exact h j (by omega) hjj
  ·
   rw [if_neg hle]
   refine ⟨true, rfl, by simp; intro j hj hjj; exfalso; apply hle; exact Int.le_trans (Int.mul_le_mul hj hj (by omega) (by omega)) hjj⟩
theorem trial_iff {p : Int} (hp : 2 ≤ p) : (∀ j : Int, 2 ≤ j → j * j ≤ p → p % j ≠ 0) ↔ Pr p.toNat := by
 constructor
 ·
  intro h
  refine Pr.of_trial (by omega) fun d hd hdd h0 => ?_
  refine h d (by omega) ?_ ?_
  ·
   have : ((d * d : Nat) : Int) ≤ p := by omega
   simpa using this
  ·
   have : ((p.toNat % d : Nat) : Int) = 0 := by rw [h0]; rfl
   rw [Int.natCast_emod, Int.toNat_of_nonneg (by omega)] at this
   exact this
 ·
  intro h j hj hjj h0
  obtain ⟨d, rfl⟩ : ∃ d : Nat, j = d := ⟨j.toNat, by omega⟩
  obtain ⟨n, rfl⟩ : ∃ n : Nat, p = n := ⟨p.toNat, by omega⟩
  simp only [Int.toNat_natCast] at h
  have hdv : d ∣ n := by
   apply Nat.dvd_of_mod_eq_zero
   have : ((n % d : Nat) : Int) = 0 := by rw [Int.natCast_emod]; exact h0
   omega
  have hn : d * d ≤ n := by
   have : ((d * d : Nat) : Int) ≤ n := by simpa using hjj
   omega
  rcases h.2 d hdv with e | e
  ·
   omega
  ·
   subst e
   have : d * 2 ≤ d * d := Nat.mul_le_mul_left d (by omega)
   omega
theorem primeB_loop {p : Int} {b : Bool} (h1 : 2 ≤ p) (h2 : p ≤ 10007) (h : b = true ↔ ∀ j : Int, 2 ≤ j → j * j ≤ p → p % j ≠ 0) : b = primeB p := by
 rw [Bool.eq_iff_iff, primeB_iff, h, trial_iff h1]
 exact ⟨fun h => ⟨h1, h2, h⟩, fun h => h.2.2⟩
theorem primeB_lo {p : Int} (h : ¬ 2 ≤ p) : primeB p = false := by
 rw [Bool.eq_false_iff]; intro e; exact h (primeB_iff.1 e).1
theorem primeB_hi {p : Int} (h : ¬ p ≤ 10007) : primeB p = false := by
 rw [Bool.eq_false_iff]; intro e; exact h (primeB_iff.1 e).2.1
end Go.Proofs.Ytlmolloallhclaa.Num
namespace Go.Proofs.Ytlmolloallhclaa.H
open Go.RowKit Go.Proofs.YtlmolloallhclaaW.PrintWords Go.Proofs.YtlmolloallhclaaW.PrintLast Go.Proofs.YtlmolloallhclaaW.PrintMore Go.Proofs.Ytlmolloallhclaa.Num
theorem Ev.succ {α : Type} {g : Nat → Option α} {r : α} (h : Ev (fun k => g (k + 1)) r) : Ev g r := by
 obtain ⟨K, h⟩ := h
 refine ⟨K + 1, fun k hk => ?_⟩
 obtain ⟨m, rfl⟩ : ∃ m, k = m + 1 := ⟨k - 1, by omega⟩
 exact h m (by omega)
theorem Ev_to {α : Type} {g : Nat → Option α} {r r' : α} (h : Ev g r) (e : r = r') : Ev g r' := e ▸ h
theorem wp1 {i : Nat} (h : i ≤ 1000000000000) : wrap64 ((i : Int) + 1) = ((i + 1 : Nat) : Int) := by rw [w64 (by omega) (by omega)]; omega
theorem rd_nat (l : List Int) (i : Nat) : rd l (i : Int) = l.getD i 0 := by simp [rd]
theorem rd_lt (l : List Int) (i : Nat) (h : i < l.length) : rd l (i : Int) = l[i] := by simp [rd, h]
theorem wn {i : Nat} (h : i ≤ 1000000000000) : wrap64 ((i : Int) + 1) = ((i + 1 : Nat) : Int) := by rw [w64 (by omega) (by omega)]; omega
theorem toI_loop (l : List Int) (hl : l.length ≤ 1000000000) (d : Nat) : ∀ (k i : Nat) (acc : List Int), i + d = l.length → acc.length = l.length → acc.take i = l.take i → d < k → laws_toInt64S.l0 k l acc (i : Int) = some l := by
 induction d with
 | zero =>
  intro k i acc h1 h2 h3 hk
  obtain ⟨k, rfl⟩ : ∃ m, k = m + 1 := ⟨k - 1, by omega⟩
  simp only [laws_toInt64S.l0]
  rw [if_neg (by omega)]
  have : acc = l := by
   have e1 : acc.take i = acc := List.take_of_length_le (by omega)
   have e2 : l.take i = l := List.take_of_length_le (by omega)
   rw [e1, e2] at h3; exact h3
  rw [this]
 | succ d ih =>
  intro k i acc h1 h2 h3 hk
  obtain ⟨k, rfl⟩ : ∃ m, k = m + 1 := ⟨k - 1, by omega⟩
  simp only [laws_toInt64S.l0]
  rw [if_pos (by omega), if_pos (by omega), if_pos (by omega), wn (by omega), rd_lt l i (by omega), Int.toNat_natCast]
  refine ih k (i + 1) _ (by omega) (by simpa using h2) ?_ (by omega)
  rw [List.take_succ_eq_append_getElem (by simp; omega), List.take_succ_eq_append_getElem (by omega), List.getElem_set_self, List.take_set_of_le (Nat.le_refl i), h3]
theorem toI_same (l : List Int) (hl : l.length ≤ 1048576) : ∃ K, ∀ k, K ≤ k → laws_toInt64S.f k l = some l := by
 refine ⟨l.length + 2, fun k hk => ?_⟩
 unfold laws_toInt64S.f
 rw [if_pos (by omega), if_pos (by omega)]
 exact toI_loop l (by omega) l.length k 0 _ (by omega) (by simp) (by simp) (by omega)
theorem eqI_loop (l : List Int) (hl : l.length ≤ 1000000000) (d : Nat) : ∀ (k i : Nat), i + d = l.length → d < k → laws_eqInt64S.l0 k l l (i : Int) = some true := by
 induction d with
 | zero =>
  intro k i h1 hk
  obtain ⟨k, rfl⟩ : ∃ m, k = m + 1 := ⟨k - 1, by omega⟩
  simp only [laws_eqInt64S.l0]
  rw [if_neg (by omega)]
 | succ d ih =>
  intro k i h1 hk
  obtain ⟨k, rfl⟩ : ∃ m, k = m + 1 := ⟨k - 1, by omega⟩
  simp only [laws_eqInt64S.l0]
  rw [if_pos (by omega), if_pos (by omega), if_pos (by omega), if_pos trivial, wn (by omega)]
  exact ih k (i + 1) (by omega) (by omega)
theorem eqI_same (l : List Int) (hl : l.length ≤ 2000000) : ∃ K, ∀ k, K ≤ k → laws_eqInt64S.f k l l = some true := by
 refine ⟨l.length + 2, fun k hk => ?_⟩
 unfold laws_eqInt64S.f
 rw [if_pos rfl]
 exact eqI_loop l (by omega) l.length k 0 (by omega) (by omega)
def up (n : Int) : Nat → List Int
 | 0 => []
 | d + 1 => n :: up (n + 1) d
theorem up_len : ∀ (d : Nat) (n : Int), (up n d).length = d
 | 0, _ => rfl
 | d + 1, n => by simp [up, up_len d]
theorem mark_loop (d : Nat) : ∀ (k i : Nat) (l : List Int) (n : Int), i + d = l.length → l.length ≤ 1000000000 → 0 ≤ n → n + d ≤ 1000000000000 → d < k → laws_markInt64S.l0 k l n (i : Int) = some (n + d, l.take i ++ up n d) := by
 induction d with
 | zero =>
  intro k i l n h1 h2 h3 h4 hk
  obtain ⟨k, rfl⟩ : ∃ m, k = m + 1 := ⟨k - 1, by omega⟩
  simp only [laws_markInt64S.l0]
  rw [if_neg (by omega), List.take_of_length_le (by omega)]
  simp [up]
 | succ d ih =>
  intro k i l n h1 h2 h3 h4 hk
  obtain ⟨k, rfl⟩ : ∃ m, k = m + 1 := ⟨k - 1, by omega⟩
  simp only [laws_markInt64S.l0]
  have hw : wrap64 (n + 1) = n + 1 := w64 (by omega) (by omega)
  rw [if_pos (by omega), if_pos (by omega), wn (by omega), Int.toNat_natCast, hw]
  rw [ih k (i + 1) _ (n + 1) (by simp; omega) (by simpa using h2) (by omega) (by omega) (by omega)]
  rw [List.take_succ_eq_append_getElem (by simp; omega), List.getElem_set_self, List.take_set_of_le (Nat.le_refl i)]
  simp only [up, List.append_assoc, List.cons_append, List.nil_append]
  congr 2
  omega
theorem mark_up (l : List Int) (hl : l.length ≤ 2000000) (n : Int) (h0 : 0 ≤ n) (h1 : n ≤ 100000000) : ∃ K, ∀ k, K ≤ k → laws_markInt64S.f k l n = some (n + l.length, up n l.length) := by
 refine ⟨l.length + 2, fun k hk => ?_⟩
 unfold laws_markInt64S.f
 have := mark_loop l.length k 0 l n (by omega) (by omega) h0 (by omega) (by omega)
 simpa using this
theorem up_get : ∀ (d i : Nat) (n : Int) (h : i < d), (up n d)[i]'(by rw [up_len]; exact h) = n + i
 | d + 1, 0, n, _ => by simp [up]
 | d + 1, i + 1, n, h => by simp only [up, List.getElem_cons_succ]; rw [up_get d i (n + 1) (by omega)]; omega
theorem held_loop (m : Nat) (n0 : Int) (hm : m ≤ 1000000000) (h0 : 0 ≤ n0) (hb : n0 ≤ 1000000000) (d : Nat) : ∀ (k i : Nat), i + d = m → d < k → laws_heldInt64S.l0 k (up n0 m) (n0 + i) (i : Int) = some (n0 + m) := by
 induction d with
 | zero =>
  intro k i h1 hk
  obtain ⟨k, rfl⟩ : ∃ m, k = m + 1 := ⟨k - 1, by omega⟩
  simp only [laws_heldInt64S.l0]
  rw [if_neg (by rw [up_len]; omega)]
  congr 2; omega
 | succ d ih =>
  intro k i h1 hk
  obtain ⟨k, rfl⟩ : ∃ m, k = m + 1 := ⟨k - 1, by omega⟩
  simp only [laws_heldInt64S.l0]
  have hw : wrap64 (n0 + i + 1) = n0 + ((i + 1 : Nat) : Int) := by rw [w64 (by omega) (by omega)]; omega
  rw [if_pos (by rw [up_len]; omega), if_pos (by omega), rd_lt _ _ (by rw [up_len]; omega), up_get _ _ _ (by omega), if_pos rfl, wn (by omega), hw]
  exact ih k (i + 1) (by omega) (by omega)
theorem held_up (m : Nat) (hm : m ≤ 2000000) (n : Int) (h0 : 0 ≤ n) (h1 : n ≤ 100000000) : ∃ K, ∀ k, K ≤ k → laws_heldInt64S.f k (up n m) n = some (n + m) := by
 refine ⟨m + 2, fun k hk => ?_⟩
 unfold laws_heldInt64S.f
 have := held_loop m n (by omega) h0 (by omega) m k 0 (by omega) (by omega)
 simpa using this
end Go.Proofs.Ytlmolloallhclaa.H
namespace Go.Proofs.Ytlmolloallhclaa.Num
open Go.RowKit
def su (f : Nat → Int) : Nat → Int
 | 0 => 0
 | n + 1 => su f n + f n
theorem su_congr {f g : Nat → Int} : ∀ {n : Nat}, (∀ i, i < n → f i = g i) → su f n = su g n
 | 0, _ => rfl
 | n + 1, h => by rw [su, su, su_congr (n := n) (fun i hi => h i (by omega)), h n (by omega)]
theorem su_zero {f : Nat → Int} : ∀ {n : Nat}, (∀ i, i < n → f i = 0) → su f n = 0
 | 0, _ => rfl
 | n + 1, h => by rw [su, su_zero (n := n) (fun i hi => h i (by omega)), h n (by omega)]; rfl
theorem su_split (f : Nat → Int) (m : Nat) : ∀ n, su f (m + n) = su f m + su (fun i => f (m + i)) n
 | 0 => by simp [su]
 | n + 1 => by rw [← Nat.add_assoc, su, su_split f m n, su]; omega
theorem su_ext {f : Nat → Int} {m n : Nat} (h : m ≤ n) (hz : ∀ i, m ≤ i → i < n → f i = 0) : su f n = su f m := by
 obtain ⟨d, rfl⟩ : ∃ d, n = m + d := ⟨n - m, by omega⟩
 rw [su_split, su_zero (n := d) (fun i hi => hz _ (by omega) (by omega))]; omega
def cv (F G : Nat → Int) (n : Nat) : Int := su (fun i => F i * G (n - i)) (n + 1)
theorem cv_zero (F : Nat → Int) (n : Nat) : cv (fun _ => 0) F n = 0 := su_zero fun i _ => Int.zero_mul _
def cg (p a b : Int) : Prop := p ∣ a - b
theorem cg.refl {p : Int} (a : Int) : cg p a a := ⟨0, by omega⟩
theorem cg.of_eq {p a b : Int} (h : a = b) : cg p a b := h ▸ cg.refl a
theorem cg.symm {p a b : Int} : cg p a b → cg p b a := fun ⟨k, h⟩ => ⟨-k, by rw [Int.mul_neg, ← h]; omega⟩
theorem cg.trans {p a b c : Int} : cg p a b → cg p b c → cg p a c := fun ⟨k, h⟩ ⟨m, h'⟩ => ⟨k + m, by rw [Int.mul_add, ← h, ← h']; omega⟩
theorem cg.add {p a b c d : Int} : cg p a b → cg p c d → cg p (a + c) (b + d) := fun ⟨k, h⟩ ⟨m, h'⟩ => ⟨k + m, by rw [Int.mul_add, ← h, ← h']; omega⟩
theorem cg.neg {p a b : Int} : cg p a b → cg p (-a) (-b) := fun ⟨k, h⟩ => ⟨-k, by rw [Int.mul_neg, ← h]; omega⟩
theorem cg.sub {p a b c d : Int} (h : cg p a b) (h' : cg p c d) : cg p (a - c) (b - d) := by
 rw [Int.sub_eq_add_neg, Int.sub_eq_add_neg]; exact h.add h'.neg
theorem cg.mul {p a b c d : Int} : cg p a b → cg p c d → cg p (a * c) (b * d) := fun ⟨k, h⟩ ⟨m, h'⟩ => ⟨k * c + b * m, by
 have e1 : a = b + p * k := by omega
 have e2 : c = d + p * m := by omega
 rw [e1, e2]; grind⟩
theorem cg.mod (p a : Int) : cg p (a % p) a := ⟨-(a / p), by have := Int.mul_ediv_add_emod a p; rw [Int.mul_neg]; omega⟩
theorem cg.emod {p a b : Int} (h : cg p a b) : a % p = b % p := by
 obtain ⟨k, h⟩ := h
 rw [show a = b + p * k by omega, Int.add_mul_emod_self_left]
theorem cg.of_emod {p a b : Int} (h : a % p = b % p) : cg p a b := (cg.mod p a).symm.trans (h ▸ cg.mod p b)
theorem cg.zero {p a : Int} : cg p a 0 ↔ a % p = 0 := ⟨fun h => by have := h.emod; simpa using this, fun h => cg.of_emod (by simpa using h)⟩
theorem cg.pow {p a b : Int} (h : cg p a b) : ∀ n : Nat, cg p (a ^ n) (b ^ n)
 | 0 => by rw [Int.pow_zero, Int.pow_zero]; exact cg.refl 1
 | n + 1 => by rw [Int.pow_succ, Int.pow_succ]; exact (cg.pow h n).mul h
theorem inv_cg {p x : Int} (hp : IsP p) (hx : x % p ≠ 0) : cg p (x * (x ^ (p - 2).toNat % p)) 1 := by
 have h2 := hp.1
 obtain ⟨n, hn⟩ : ∃ n : Nat, p = n := ⟨p.toNat, by omega⟩
 subst hn
 have hpr : Pr n := by simpa using hp.2.2
 obtain ⟨a, ha⟩ : ∃ a : Nat, x % (n : Int) = a := ⟨(x % (n : Int)).toNat, by have := emod_bd (x := x) (p := n) (by omega); omega⟩
 have hb := emod_bd (x := x) (p := (n : Int)) (by omega)
 have hnd : ¬ n ∣ a := fun h => by have := Nat.le_of_dvd (by omega) h; omega
 have hf := hpr.fermat1 hnd
 have h1 : cg n ((a : Int) ^ (n - 1)) 1 := by
  refine cg.of_emod ?_
  have : ((a ^ (n - 1) % n : Nat) : Int) = 1 := by rw [hf]; rfl
  rw [Int.natCast_emod, Int.natCast_pow] at this
  rw [this, Int.emod_eq_of_lt (by omega) (by omega)]
 have hxa : cg n x a := ha ▸ (cg.mod n x).symm
 refine ((cg.refl x).mul (cg.mod _ _)).trans ?_
 have e : x * x ^ ((n : Int) - 2).toNat = x ^ (n - 1) := by
  rw [Int.mul_comm, ← Int.pow_succ]; congr 1; omega
 rw [e]
 exact (hxa.pow _).trans h1
end Go.Proofs.Ytlmolloallhclaa.Num
namespace Go.Proofs.Ytlmolloallhclaa.H
open Go.RowKit Go.Proofs.YtlmolloallhclaaW.PrintWords Go.Proofs.YtlmolloallhclaaW.PrintLast Go.Proofs.YtlmolloallhclaaW.PrintMore Go.Proofs.Ytlmolloallhclaa.Num
theorem spec_prime (p : Int) : Ev (fun k => spec_l01Prime.f k p) (primeB p) := by
 refine ⟨200, fun k hk => ?_⟩
 unfold spec_l01Prime.f spec_l01In.f
 by_cases h1 : p ≥ 2
 ·
  by_cases h2 : p ≤ 10007
  ·
   obtain ⟨b, hb, hiff⟩ := prime_loop spec_l01Prime.l0 p h1 h2 (fun k i => rfl) 102 k 2 (by omega) (by omega) (by omega) (by omega)
   simp only [if_pos h1, Option.bind_some, decide_eq_true h2, if_true, hb, primeB_loop h1 h2 hiff]
  ·
   simp [if_pos h1, decide_eq_false h2, primeB_hi h2]
 ·
  simp [if_neg h1, primeB_lo h1]
theorem impl_prime (p : Int) : Ev (fun k => impl_IsPrime.f k p) (primeB p) := by
 refine ⟨200, fun k hk => ?_⟩
 unfold impl_IsPrime.f impl_within.f
 by_cases h1 : 2 ≤ p
 ·
  by_cases h2 : p ≤ 10007
  ·
   obtain ⟨b, hb, hiff⟩ := prime_loop impl_IsPrime.l0 p h1 h2 (fun k i => rfl) 102 k 2 (by omega) (by omega) (by omega) (by omega)
   simp only [if_pos h1, Option.bind_some, decide_eq_true h2, if_true, hb, primeB_loop h1 h2 hiff]
  ·
   simp [if_pos h1, decide_eq_false h2, primeB_hi h2]
 ·
  simp [if_neg h1, primeB_lo h1]
theorem spec_mod {p x : Int} (hp : 0 < p) (hp2 : p ≤ 1000000000) : spec_l01Mod.f p x = some (x % p) := by
 unfold spec_l01Mod.f; rw [if_neg (by omega), md hp hp2]
theorem impl_mod {p x : Int} (hp : 0 < p) (hp2 : p ≤ 1000000000) : impl_field_mod.f p x = some (x % p) := by
 unfold impl_field_mod.f; rw [if_neg (by omega), md hp hp2]
theorem impl_mul {p x y : Int} (hp : 0 < p) (hp2 : p ≤ 1000000000) (h1 : -9223372036854775808 ≤ x * y) (h2 : x * y ≤ 9223372036854775807) : impl_field_mul.f p x y = some (x * y % p) := by
 unfold impl_field_mul.f; rw [impl_mod hp hp2, w64 h1 h2]; rfl
theorem spec_power {p x e : Int} (hp : 2 ≤ p) (hp2 : p ≤ 10007) (e0 : 0 ≤ e) (e1 : e ≤ 1000000000) : Ev (fun k => spec_l01Power.f k p x e) (x ^ e.toNat % p) := by
 refine ⟨e.toNat + 2, fun k hk => ?_⟩
 have hb := emod_bd (x := x) (p := p) (by omega)
 simp only [spec_l01Power.f, spec_mod (show 0 < p by omega) (show p ≤ 1000000000 by omega), Option.bind_some]
 rw [pow_loop spec_l01Power.l0 (fun p out => some (Int.tmod out p)) (fun y => Int.tmod y p) p hp (by omega) (fun y hy => tmod_nn hy) (fun k e out x => by
   simp only [spec_l01Power.l0, if_neg (show ¬ p = 0 by omega)]) (e.toNat + 1) k e 1 (x % p) (by omega) (by omega) e0 e1 (by omega) (by omega) hb.1 hb.2]
 rw [Int.one_mul, pow_emod, tmod_nn (emod_bd (by omega)).1, Int.emod_emod]
theorem impl_power {p x e : Int} (hp : 2 ≤ p) (hp2 : p ≤ 10007) (x0 : 0 ≤ x) (x1 : x < p) (e0 : 0 ≤ e) (e1 : e ≤ 1000000000) : Ev (fun k => impl_field_power.f k p x e) (x ^ e.toNat % p) := by
 refine ⟨e.toNat + 2, fun k hk => ?_⟩
 simp only [impl_field_power.f, impl_mod (show 0 < p by omega) (show p ≤ 1000000000 by omega), Option.bind_some]
 rw [Int.emod_eq_of_lt (a := 1) (by omega) (by omega)]
 rw [pow_loop (fun k p e out x => impl_field_power.l0 k p x e out) (fun p out => some out) (fun y => y % p) p hp (by omega) (fun y hy => rfl) (fun k e out x => by
   simp only [impl_field_power.l0, impl_field_mul.f, impl_mod (show 0 < p by omega) (show p ≤ 1000000000 by omega), Option.bind_some]) (e.toNat + 1) k e 1 x (by omega) (by omega) e0 e1 (by omega) (by omega) x0 x1]
 rw [Int.one_mul]
theorem spec_inverse {p x : Int} (hp : 2 ≤ p) (hp2 : p ≤ 10007) : Ev (fun k => spec_l01Inverse.f k p x) (x ^ (p - 2).toNat % p) := by
 obtain ⟨K, h⟩ := spec_power (x := x) (e := p - 2) hp hp2 (by omega) (by omega)
 refine ⟨K, fun k hk => ?_⟩
 have hw : wrap64 (p - 2) = p - 2 := w64 (by omega) (by omega)
 have e := h k hk
 simp only at e
 simp only [spec_l01Inverse.f, hw, e, Option.bind_some]
theorem impl_inverse {p x : Int} (hp : 2 ≤ p) (hp2 : p ≤ 10007) (x0 : 0 ≤ x) (x1 : x < p) : Ev (fun k => impl_field_inverse.f k p x) (x ^ (p - 2).toNat % p) := by
 obtain ⟨K, h⟩ := impl_power (x := x) (e := p - 2) hp hp2 x0 x1 (by omega) (by omega)
 refine ⟨K, fun k hk => ?_⟩
 have hw : wrap64 (p - 2) = p - 2 := w64 (by omega) (by omega)
 have e := h k hk
 simp only at e
 simp only [impl_field_inverse.f, hw, e, Option.bind_some]
theorem hasB_iff {p x : Int} : hasB p x = true ↔ 0 ≤ x ∧ x < p := by unfold hasB; simp
theorem poly_loop (p : Int) (l : List Int) (hl : l.length ≤ 1000000000) (d : Nat) : ∀ (k i : Nat), i + d = l.length → d < k → spec_l01Poly.l0 k p l (i : Int) = some ((l.drop i).all (hasB p) && (decide (l.length ≤ 25) && (decide (l.length = 0) || decide (rd l ((l.length : Int) - 1) ≠ 0)))) := by
 induction d with
 | zero =>
  intro k i h1 hk
  obtain ⟨k, rfl⟩ : ∃ m, k = m + 1 := ⟨k - 1, by omega⟩
  simp only [spec_l01Poly.l0]
  rw [if_neg (by omega), List.drop_of_length_le (by omega)]
  by_cases h25 : l.length ≤ 25
  ·
   rw [if_pos (by omega)]
   by_cases h0 : l.length = 0
   ·
    rw [if_pos (by omega)]; simp [h0]
   ·
    have hw : wrap64 ((l.length : Int) - 1) = (l.length : Int) - 1 := w64 (by omega) (by omega)
    rw [if_neg (by omega), hw, if_pos (by omega), if_pos (by omega)]
    simp [h25, h0, bne]
    rfl
  ·
   rw [if_neg (by omega)]; simp [h25]
 | succ d ih =>
  intro k i h1 hk
  obtain ⟨k, rfl⟩ : ∃ m, k = m + 1 := ⟨k - 1, by omega⟩
  simp only [spec_l01Poly.l0]
  rw [if_pos (by omega), if_pos (by omega), rd_lt l i (by omega), wn (by omega), ih k (i + 1) (by omega) (by omega), List.drop_eq_getElem_cons (show i < l.length by omega), List.all_cons]
  by_cases h0 : l[i] < 0
  ·
   rw [if_pos h0]; simp [hasB]; omega
  ·
   rw [if_neg h0]
   by_cases hp : l[i] ≥ p
   ·
    rw [if_pos hp]; simp [hasB]; omega
   ·
    rw [if_neg hp]
    have : hasB p l[i] = true := hasB_iff.2 (by omega)
    rw [this, Bool.true_and]
theorem spec_poly (p : Int) (l : List Int) (hl : l.length ≤ 1000000000) : Ev (fun k => spec_l01Poly.f k p l) (polyB p l) := by
 refine ⟨l.length + 2, fun k hk => ?_⟩
 unfold spec_l01Poly.f
 have h := poly_loop p l hl l.length k 0 (by omega) (by omega)
 simp only [Int.natCast_zero, List.drop_zero] at h
 show spec_l01Poly.l0 k p l 0 = _
 rw [h]
 unfold polyB
 cases decide (l.length ≤ 25) <;> simp [Bool.and_comm]
structure Po (p : Int) (l : List Int) : Prop where
 len : l.length ≤ 25
 el : ∀ x ∈ l, 0 ≤ x ∧ x < p
 last : l.length = 0 ∨ rd l ((l.length : Int) - 1) ≠ 0
theorem polyB_iff {p : Int} {l : List Int} : polyB p l = true ↔ Po p l := by
 unfold polyB
 simp only [Bool.and_eq_true, Bool.or_eq_true, decide_eq_true_eq, List.all_eq_true, hasB_iff]
 exact ⟨fun ⟨⟨a, b⟩, c⟩ => ⟨a, b, c⟩, fun h => ⟨⟨h.len, h.el⟩, h.last⟩⟩
noncomputable def codeL (p : Int) (b : Bool) (ls : List (List Int)) : Int := if ls.all (polyB p) = true then (if (primeB p && b) = true then 0 else 2) else 1
theorem code_loop (p : Int) (ls : List (List Int)) (hl : ls.length ≤ 1000000000) (hls : ∀ l ∈ ls, l.length ≤ 1000000000) (K : Nat) (hK : ∀ l ∈ ls, ∀ k, K ≤ k → spec_l01Poly.f k p l = some (polyB p l)) (hP : ∀ k, K ≤ k → spec_l01Prime.f k p = some (primeB p)) (d : Nat) :
  ∀ (k i : Nat), i + d = ls.length → K + d < k → spec_l01Code.l0 k p ls (i : Int) = some (codeL p true (ls.drop i)) := by
 induction d with
 | zero =>
  intro k i h1 hk
  obtain ⟨k, rfl⟩ : ∃ m, k = m + 1 := ⟨k - 1, by omega⟩
  simp only [spec_l01Code.l0]
  rw [if_neg (by omega), List.drop_of_length_le (by omega), hP k (by omega)]
  simp [codeL]
  cases primeB p <;> simp
 | succ d ih =>
  intro k i h1 hk
  obtain ⟨k, rfl⟩ : ∃ m, k = m + 1 := ⟨k - 1, by omega⟩
  simp only [spec_l01Code.l0]
  have hrd : rd_L1 ls (i : Int) = ls[i]'(by omega) := by
   simp [rd_L1, List.getD_eq_getElem?_getD, show i < ls.length by omega]
  rw [if_pos (by omega), if_pos (by omega), hrd, hK _ (List.getElem_mem _) k (by omega), Option.bind_some, wn (by omega), ih k (i + 1) (by omega) (by omega), List.drop_eq_getElem_cons (show i < ls.length by omega)]
  cases hq : polyB p (ls[i]'(by omega)) with
  | true => simp only [codeL, List.all_cons, hq, Bool.true_and, if_true]
  | false => simp [codeL, List.all_cons, hq, -List.getElem_cons_drop]
theorem spec_code (p : Int) (ls : List (List Int)) (hl : ls.length ≤ 1000000) (hls : ∀ l ∈ ls, l.length ≤ 1000000000) : Ev (fun k => spec_l01Code.f k p ls) (codeL p true ls) := by
 obtain ⟨K1, h1⟩ : ∃ K, ∀ l ∈ ls, ∀ k, K ≤ k → spec_l01Poly.f k p l = some (polyB p l) := by
  clear hl
  induction ls with
  | nil => exact ⟨0, fun l hl => by simp at hl⟩
  | cons a ls ih =>
   obtain ⟨K, h⟩ := ih (fun l hl => hls l (by simp [hl]))
   obtain ⟨K', h'⟩ := spec_poly p a (hls a (by simp))
   refine ⟨K + K', fun l hl k hk => ?_⟩
   rcases List.mem_cons.1 hl with rfl | hl
   ·
    exact h' k (by omega)
   ·
    exact h l hl k (by omega)
 obtain ⟨K2, h2⟩ := spec_prime p
 refine ⟨K1 + K2 + ls.length + 2, fun k hk => ?_⟩
 unfold spec_l01Code.f
 exact code_loop p ls (by omega) hls (K1 + K2) (fun l hl k hk => h1 l hl k (by omega)) (fun k hk => h2 k (by omega)) ls.length k 0 (by omega) (by omega)
theorem impl_code2 (p : Int) (b : Bool) (l l' : List Int) : Ev (fun k => impl_polyCode_2.f k p b l l') (codeL p b [l, l']) := by
 obtain ⟨K, h⟩ := impl_prime p
 refine ⟨K, fun k hk => ?_⟩
 have e := h k hk
 simp only at e
 simp only [impl_polyCode_2.f, codeL, e, Option.bind_some, List.all_cons, List.all_nil, Bool.and_true]
 split <;> rfl
theorem codeL_0 {p : Int} {b : Bool} {ls : List (List Int)} (h : codeL p b ls = 0) : IsP p ∧ b = true ∧ ∀ l ∈ ls, Po p l := by
 unfold codeL at h
 split at h
 ·
  split at h
  ·
   rename_i h1 h2
   simp only [Bool.and_eq_true] at h2
   exact ⟨primeB_iff.1 h2.1, h2.2, fun l hl => polyB_iff.1 (List.all_eq_true.1 h1 l hl)⟩
  ·
   cases h
 ·
  cases h
def tlen (l : List Int) : Nat → Nat
 | 0 => 0
 | n + 1 => if l.getD n 0 = 0 then tlen l n else n + 1
def trimL (l : List Int) : List Int := l.take (tlen l l.length)
theorem tlen_le (l : List Int) : ∀ n, tlen l n ≤ n
 | 0 => Nat.le_refl _
 | n + 1 => by unfold tlen; split; (have := tlen_le l n; omega); omega
theorem tlen_take (l : List Int) (m : Nat) : ∀ n, n ≤ m → tlen (l.take m) n = tlen l n
 | 0, _ => rfl
 | n + 1, h => by
  have e : (l.take m).getD n 0 = l.getD n 0 := by simp [List.getD_eq_getElem?_getD, show n < m by omega]
  unfold tlen
  rw [e, tlen_take l m n (by omega)]
theorem own_some (l : List Int) (h : l.length < 17592186044416) : spec_l01Own.f l = some l := by
 simp [spec_l01Own.f, h]
theorem specTrim_loop (l : List Int) (hl : l.length ≤ 1000000000) : ∀ (n k : Nat), n ≤ l.length → n < k → spec_l01Trim.l0 k l (n : Int) = some (l.take (tlen l n))
 | 0, k, h, hk => by
  obtain ⟨k, rfl⟩ : ∃ m, k = m + 1 := ⟨k - 1, by omega⟩
  simp only [spec_l01Trim.l0]
  rw [if_neg (by omega), if_pos (by omega), if_pos (by omega), own_some _ (by rw [List.length_take]; omega)]
  simp [tlen]
 | n + 1, k, h, hk => by
  obtain ⟨k, rfl⟩ : ∃ m, k = m + 1 := ⟨k - 1, by omega⟩
  simp only [spec_l01Trim.l0]
  have hw : wrap64 (((n + 1 : Nat) : Int) - 1) = (n : Int) := by rw [w64 (by omega) (by omega)]; omega
  rw [if_pos (by omega), hw, if_pos (by omega), if_pos (by omega), rd_nat]
  by_cases h0 : l.getD n 0 = 0
  ·
   rw [if_pos h0, specTrim_loop l hl n k (by omega) (by omega)]
   simp only [tlen, if_pos h0]
  ·
   rw [if_neg h0, if_pos (by omega), if_pos (by omega), own_some _ (by rw [List.length_take]; omega), Int.toNat_natCast]
   simp only [tlen, if_neg h0, Option.bind_some]
theorem spec_trim (l : List Int) (hl : l.length ≤ 1000000000) : Ev (fun k => spec_l01Trim.f k l) (trimL l) :=
 ⟨l.length + 2, fun k hk => specTrim_loop l hl l.length k (Nat.le_refl _) (by omega)⟩
theorem implTrim_loop : ∀ (n k : Nat) (l : List Int), l.length = n → n ≤ 1000000000 → n < k → impl_trimmed.l0 k l = some (trimL l)
 | 0, k, l, h, hl, hk => by
  obtain ⟨k, rfl⟩ : ∃ m, k = m + 1 := ⟨k - 1, by omega⟩
  simp only [impl_trimmed.l0]
  rw [if_neg (by omega)]
  simp [trimL, h, List.eq_nil_of_length_eq_zero h]
 | n + 1, k, l, h, hl, hk => by
  obtain ⟨k, rfl⟩ : ∃ m, k = m + 1 := ⟨k - 1, by omega⟩
  simp only [impl_trimmed.l0]
  have hw : wrap64 ((l.length : Int) - 1) = (n : Int) := by rw [w64 (by omega) (by omega)]; omega
  rw [if_pos (by omega), hw, if_pos (by omega), if_pos (by omega), rd_nat, Int.toNat_natCast]
  by_cases h0 : l.getD n 0 = 0
  ·
   rw [if_pos h0, if_pos (by omega), implTrim_loop n k (l.take n) (by simp; omega) (by omega) (by omega)]
   simp only [trimL, h, tlen, if_pos h0]
   rw [show (l.take n).length = n by simp [h], tlen_take l n n (Nat.le_refl _), List.take_take]
   congr 2
   have := tlen_le l n
   omega
  ·
   rw [if_neg h0]
   simp only [trimL, h, tlen, if_neg h0]
   rw [List.take_of_length_le (by omega)]
theorem impl_trim (l : List Int) (hl : l.length ≤ 1000000000) : Ev (fun k => impl_trimmed.f k l) (trimL l) :=
 ⟨l.length + 2, fun k hk => implTrim_loop l.length k l rfl hl (by omega)⟩
def InR (p : Int) (l : List Int) : Prop := ∀ x ∈ l, 0 ≤ x ∧ x < p
theorem InR.get {p : Int} {l : List Int} (h : InR p l) (hp : 0 < p) (i : Nat) : 0 ≤ l.getD i 0 ∧ l.getD i 0 < p := by
 rcases Nat.lt_or_ge i l.length with hi | hi
 ·
  rw [List.getD_eq_getElem?_getD, List.getElem?_eq_getElem hi]; exact h _ (List.getElem_mem hi)
 ·
  rw [List.getD_eq_getElem?_getD, List.getElem?_eq_none hi]; exact ⟨Int.le_refl _, hp⟩
theorem InR.set {p : Int} {l : List Int} (h : InR p l) (i : Nat) {x : Int} (hx : 0 ≤ x ∧ x < p) : InR p (l.set i x) := by
 intro y hy
 rcases List.mem_or_eq_of_mem_set hy with h' | h'
 ·
  exact h y h'
 ·
  rw [h']; exact hx
theorem InR.take {p : Int} {l : List Int} (h : InR p l) (n : Nat) : InR p (l.take n) := fun x hx => h x (List.mem_of_mem_take hx)
theorem InR.trim {p : Int} {l : List Int} (h : InR p l) : InR p (trimL l) := h.take _
theorem InR.zeros {p : Int} (hp : 0 < p) (n : Nat) : InR p (List.replicate n 0) := fun x hx => by
 have := (List.mem_replicate.1 hx).2; subst this; exact ⟨Int.le_refl _, hp⟩
theorem InR.drop {p : Int} {l : List Int} (h : InR p l) (n : Nat) : InR p (l.drop n) := fun x hx => h x (List.mem_of_mem_drop hx)
theorem Po.inR {p : Int} {l : List Int} (h : Po p l) : InR p l := h.el
theorem InR.nil {p : Int} : InR p [] := fun x hx => by simp at hx
theorem mul_bd2 {p x y : Int} (hp : p ≤ 10007) (hx : 0 ≤ x ∧ x < p) (hy : 0 ≤ y ∧ y ≤ 100000) : 0 ≤ x * y ∧ x * y ≤ 1000700000 := by
 have := mul_bd (a := 10007) (b := 100000) hx.1 (by omega) hy.1 hy.2; omega
def inv (p x : Int) : Int := x ^ (p - 2).toNat % p
theorem inv_bd {p : Int} (hp : 0 < p) (x : Int) : 0 ≤ inv p x ∧ inv p x < p := emod_bd hp
theorem trimL_id {l : List Int} (h : l.length = 0 ∨ l.getD (l.length - 1) 0 ≠ 0) : trimL l = l := by
 unfold trimL
 rcases h with h | h
 ·
  rw [h]; simp [tlen]; exact List.eq_nil_of_length_eq_zero h
 ·
  obtain ⟨n, hn⟩ : ∃ n, l.length = n + 1 ∨ l.length = 0 := ⟨l.length - 1, by omega⟩
  rcases hn with hn | hn
  ·
   rw [hn] at h ⊢
   simp only [Nat.add_sub_cancel] at h
   simp only [tlen, if_neg h]
   exact List.take_of_length_le (by omega)
  ·
   rw [hn]; simp [tlen]; exact List.eq_nil_of_length_eq_zero hn
theorem mul_ne0 {p x y : Int} (hp : IsP p) (hx : 0 < x ∧ x < p) (hy : 0 < y ∧ y < p) : x * y % p ≠ 0 := by
 intro h
 obtain ⟨a, rfl⟩ : ∃ a : Nat, x = a := ⟨x.toNat, by omega⟩
 obtain ⟨b, rfl⟩ : ∃ b : Nat, y = b := ⟨y.toNat, by omega⟩
 obtain ⟨n, hn⟩ : ∃ n : Nat, p = n := ⟨p.toNat, by have := hp.1; omega⟩
 subst hn
 have hd : n ∣ a * b := by
  apply Nat.dvd_of_mod_eq_zero
  have : ((a * b % n : Nat) : Int) = 0 := by simpa using h
  omega
 have hpr : Pr n := by simpa using hp.2.2
 rcases hpr.euclid hd with h' | h'
 ·
  have := Nat.le_of_dvd (by omega) h'; omega
 ·
  have := Nat.le_of_dvd (by omega) h'; omega
theorem Po.last_bd {p : Int} {f : List Int} (h : Po p f) (hp : 0 < p) (h0 : 0 < f.length) : 0 < f.getD (f.length - 1) 0 ∧ f.getD (f.length - 1) 0 < p := by
 have h1 := h.inR.get hp (f.length - 1)
 rcases h.last with h2 | h2
 ·
  omega
 ·
  rw [show (f.length : Int) - 1 = ((f.length - 1 : Nat) : Int) by omega, rd_nat] at h2
  omega
def dv1 (p q : Int) (g : List Int) (a : Nat) : List Int → Nat → Nat → List Int
 | r, _, 0 => r
 | r, j, d + 1 => dv1 p q g a (r.set (a + j) ((r.getD (a + j) 0 - q * g.getD j 0) % p)) (j + 1) d
def dvR (p iv : Int) (g : List Int) : Nat → List Int → List Int → List Int × List Int
 | 0, q, r => (q, r)
 | m + 1, q, r => dvR p iv g m (q.set m (r.getD (m + g.length - 1) 0 * iv % p)) (dv1 p (r.getD (m + g.length - 1) 0 * iv % p) g m r 0 g.length)
def divL (p : Int) (f g : List Int) : List Int × List Int :=
  if f.length < g.length then ([], f) else
    ((dvR p (inv p (g.getD (g.length - 1) 0)) g (f.length - g.length + 1) (List.replicate (f.length - g.length + 1) 0) f).1,
     trimL (dvR p (inv p (g.getD (g.length - 1) 0)) g (f.length - g.length + 1) (List.replicate (f.length - g.length + 1) 0) f).2)
theorem dv1_len (p q : Int) (g : List Int) (a : Nat) : ∀ d j r, (dv1 p q g a r j d).length = r.length
 | 0, _, _ => rfl
 | d + 1, j, r => by simp [dv1, dv1_len p q g a d]
theorem dv1_inR {p : Int} (hp : 0 < p) (q : Int) (g : List Int) (a : Nat) : ∀ d j r, InR p r → InR p (dv1 p q g a r j d)
 | 0, _, _, h => h
 | d + 1, j, r, h => dv1_inR hp q g a d (j + 1) _ (h.set _ (emod_bd hp))
theorem dvR_len (p iv : Int) (g : List Int) : ∀ m q r, (dvR p iv g m q r).1.length = q.length ∧ (dvR p iv g m q r).2.length = r.length
 | 0, _, _ => ⟨rfl, rfl⟩
 | m + 1, q, r => by have := dvR_len p iv g m (q.set m (r.getD (m + g.length - 1) 0 * iv % p)) (dv1 p (r.getD (m + g.length - 1) 0 * iv % p) g m r 0 g.length); simpa [dvR, dv1_len] using this
theorem dvR_inR {p : Int} (hp : 0 < p) (iv : Int) (g : List Int) : ∀ m q r, InR p q → InR p r → InR p (dvR p iv g m q r).1 ∧ InR p (dvR p iv g m q r).2
 | 0, _, _, h, h' => ⟨h, h'⟩
 | m + 1, q, r, h, h' => dvR_inR hp iv g m _ _ (h.set _ (emod_bd hp)) (dv1_inR hp _ g m _ _ _ h')
theorem dvR_top (p iv : Int) (g : List Int) (t : Nat) : ∀ m q r, m ≤ t → (dvR p iv g m q r).1.getD t 0 = q.getD t 0
 | 0, _, _, _ => rfl
 | m + 1, q, r, h => by
  rw [dvR, dvR_top p iv g t m _ _ (by omega)]
  simp only [List.getD_eq_getElem?_getD]
  rw [List.getElem?_set_ne (by omega)]
theorem spec_dstep {p : Int} {g r q : List Int} (k a j : Nat) (n iv c : Int) (hn : n = g.length) (hp : 2 ≤ p) (hp2 : p ≤ 10007) (hj : j < g.length) (hL : a + j < r.length) (h5 : a + j ≤ 100000)
  (hb : 0 ≤ c * g.getD j 0 ∧ c * g.getD j 0 ≤ 1000700000) (ha : 0 ≤ r.getD (a + j) 0 ∧ r.getD (a + j) 0 ≤ 100000) :
  spec_l01Divide.l1 (k + 1) p g r n q iv (a : Int) c (j : Int) = spec_l01Divide.l1 k p g (r.set (a + j) ((r.getD (a + j) 0 - c * g.getD j 0) % p)) n q iv (a : Int) c ((j + 1 : Nat) : Int) := by
 subst hn
 have hw : wrap64 ((a : Int) + (j : Int)) = ((a + j : Nat) : Int) := by rw [w64 (by omega) (by omega)]; omega
 have q1 : (j : Int) < (g.length : Int) := by omega
 have q2 : (0 : Int) ≤ ((a + j : Nat) : Int) := by omega
 have q3 : ((a + j : Nat) : Int) < (r.length : Int) := by omega
 have q6 : (0 : Int) ≤ (j : Int) := by omega
 have w1 : wrap64 (c * g.getD j 0) = c * g.getD j 0 := w64 (by omega) (by omega)
 have w2 : wrap64 (r.getD (a + j) 0 - c * g.getD j 0) = r.getD (a + j) 0 - c * g.getD j 0 := w64 (by omega) (by omega)
 have w3 : wrap64 ((j : Int) + 1) = ((j + 1 : Nat) : Int) := wn (by omega)
 have w4 : spec_l01Mod.f p (r.getD (a + j) 0 - c * g.getD j 0) = some ((r.getD (a + j) 0 - c * g.getD j 0) % p) := spec_mod (by omega) (by omega)
 simp only [spec_l01Divide.l1, hw]
 rw [if_pos q1, if_pos q2, if_pos q3, if_pos q6, if_pos q1, rd_nat, rd_nat, w1, w2, w3, w4, Int.toNat_natCast, Option.bind_some]
theorem impl_dstep {p : Int} {g r q : List Int} (k a j : Nat) (hp : 2 ≤ p) (hp2 : p ≤ 10007) (hj : j < g.length) (hL : a + j < r.length) (h5 : a + j ≤ 100000) (haq : a < q.length)
  (hb : 0 ≤ q.getD a 0 * g.getD j 0 ∧ q.getD a 0 * g.getD j 0 ≤ 1000700000) (ha : 0 ≤ r.getD (a + j) 0 ∧ r.getD (a + j) 0 ≤ 100000) :
  impl_field_divide.l1 (k + 1) p g r q (a : Int) g (g.length : Int) (j : Int) = impl_field_divide.l1 k p g (r.set (a + j) ((r.getD (a + j) 0 - q.getD a 0 * g.getD j 0) % p)) q (a : Int) g (g.length : Int) ((j + 1 : Nat) : Int) := by
 have hw : wrap64 ((a : Int) + (j : Int)) = ((a + j : Nat) : Int) := by rw [w64 (by omega) (by omega)]; omega
 have q1 : (j : Int) < (g.length : Int) := by omega
 have q2 : (0 : Int) ≤ ((a + j : Nat) : Int) := by omega
 have q3 : ((a + j : Nat) : Int) < (r.length : Int) := by omega
 have q6 : (0 : Int) ≤ (j : Int) := by omega
 have q7 : (0 : Int) ≤ (a : Int) := by omega
 have q8 : (a : Int) < (q.length : Int) := by omega
 have w1 : wrap64 (q.getD a 0 * g.getD j 0) = q.getD a 0 * g.getD j 0 := w64 (by omega) (by omega)
 have w2 : wrap64 (r.getD (a + j) 0 - q.getD a 0 * g.getD j 0) = r.getD (a + j) 0 - q.getD a 0 * g.getD j 0 := w64 (by omega) (by omega)
 have w3 : wrap64 ((j : Int) + 1) = ((j + 1 : Nat) : Int) := wn (by omega)
 have w4 : impl_field_mod.f p (r.getD (a + j) 0 - q.getD a 0 * g.getD j 0) = some ((r.getD (a + j) 0 - q.getD a 0 * g.getD j 0) % p) := impl_mod (by omega) (by omega)
 simp only [impl_field_divide.l1, hw]
 rw [if_pos q1, if_pos q6, if_pos q1, if_pos q2, if_pos q3, if_pos q7, if_pos q8, rd_nat, rd_nat, rd_nat, w1, w2, w3, w4, Int.toNat_natCast, Option.bind_some]
theorem wm {m : Nat} (h : m ≤ 1000000) : wrap64 ((m : Int) - 1) = (m : Int) - 1 := w64 (by omega) (by omega)
theorem spec_divide {p : Int} {f g : List Int} (hp : 2 ≤ p) (hp2 : p ≤ 10007) (hf : f.length ≤ 1000) (hg : g.length ≤ 1000) (h0 : 0 < g.length) (rf : InR p f) (rg : InR p g) :
  Ev (fun k => spec_l01Divide.f k p f g) (trimL (divL p f g).1, (divL p f g).2) := by
 have inner : ∀ (a : Nat) (c iv : Int) (q : List Int) (res : List Int × List Int), a ≤ 1000 → 0 ≤ c ∧ c < p → ∀ d j (r : List Int), j + d = g.length → a + g.length ≤ r.length → InR p r →
   Ev (fun k => spec_l01Divide.l0 k p g (dv1 p c g a r j d) (g.length : Int) q iv ((a : Int) - 1)) res → Ev (fun k => spec_l01Divide.l1 k p g r (g.length : Int) q iv (a : Int) c (j : Int)) res := by
  intro a c iv q res ha1 hc d
  induction d with
  | zero =>
   intro j r h1 h2 h3 ⟨K, h⟩
   refine ⟨K + 1, fun k hk => ?_⟩
   obtain ⟨k, rfl⟩ : ∃ m, k = m + 1 := ⟨k - 1, by omega⟩
   have e := h k (by omega)
   simp only [dv1] at e
   simp only [spec_l01Divide.l1]
   rw [if_neg (by omega), wm (by omega), e]
  | succ d ih =>
   intro j r h1 h2 h3 h
   obtain ⟨K, h⟩ := ih (j + 1) (r.set (a + j) ((r.getD (a + j) 0 - c * g.getD j 0) % p)) (by omega) (by simpa using h2) (h3.set _ (emod_bd (by omega))) h
   refine ⟨K + 1, fun k hk => ?_⟩
   obtain ⟨k, rfl⟩ : ∃ m, k = m + 1 := ⟨k - 1, by omega⟩
   have e := h k (by omega)
   simp only at e
   have hb := mul_bd2 hp2 hc (y := g.getD j 0) (by have := rg.get (by omega) j; omega)
   have ha := h3.get (by omega) (a + j)
   exact (spec_dstep k a j _ iv c rfl hp hp2 (by omega) (by omega) (by omega) hb ⟨ha.1, by omega⟩).trans e
 have outer : ∀ (iv : Int), 0 ≤ iv ∧ iv < p → ∀ m (q r : List Int), m ≤ 1000 → m ≤ q.length → (m = 0 ∨ m + g.length - 1 ≤ r.length) → q.length ≤ 1001 → r.length ≤ 1001 → InR p q → InR p r →
   Ev (fun k => spec_l01Divide.l0 k p g r (g.length : Int) q iv ((m : Int) - 1)) (trimL (dvR p iv g m q r).1, trimL (dvR p iv g m q r).2) := by
  intro iv hiv m
  induction m with
  | zero =>
   intro q r h1 h2 h3 h4 h5 h6 h7
   obtain ⟨K, h⟩ := spec_trim q (by omega)
   obtain ⟨K', h'⟩ := spec_trim r (by omega)
   refine ⟨K + K' + 1, fun k hk => ?_⟩
   obtain ⟨k, rfl⟩ : ∃ m, k = m + 1 := ⟨k - 1, by omega⟩
   have e := h k (by omega)
   have e' := h' k (by omega)
   simp only at e e'
   simp only [spec_l01Divide.l0]
   rw [if_neg (by omega), e, Option.bind_some, e']
   rfl
  | succ m ih =>
   intro q r h1 h2 h3 h4 h5 h6 h7
   have hr := h7.get (by omega) (m + g.length - 1)
   have hb := mul_bd2 hp2 hr (y := iv) (by omega)
   have hcb := emod_bd (x := r.getD (m + g.length - 1) 0 * iv) (p := p) (by omega)
   obtain ⟨K, h⟩ := inner m _ iv (q.set m (r.getD (m + g.length - 1) 0 * iv % p)) _ (by omega) hcb g.length 0 r (by omega) (by omega) h7
    (ih (q.set m (r.getD (m + g.length - 1) 0 * iv % p)) (dv1 p (r.getD (m + g.length - 1) 0 * iv % p) g m r 0 g.length) (by omega) (by simp; omega) (by rw [dv1_len]; omega) (by simpa using h4) (by rw [dv1_len]; exact h5) (h6.set _ hcb) (dv1_inR (by omega) _ g m _ _ _ h7))
   refine ⟨K + 1, fun k hk => ?_⟩
   obtain ⟨k, rfl⟩ : ∃ m, k = m + 1 := ⟨k - 1, by omega⟩
   have e := h k (by omega)
   simp only [Int.natCast_zero] at e
   have hm : ((m + 1 : Nat) : Int) - 1 = (m : Int) := by omega
   have hw : wrap64 (wrap64 ((m : Int) + (g.length : Int)) - 1) = ((m + g.length - 1 : Nat) : Int) := by rw [w64 (x := (m : Int) + (g.length : Int)) (by omega) (by omega), w64 (by omega) (by omega)]; omega
   have q1 : (m : Int) ≥ 0 := by omega
   have q2 : (0 : Int) ≤ ((m + g.length - 1 : Nat) : Int) := by omega
   have q3 : ((m + g.length - 1 : Nat) : Int) < (r.length : Int) := by omega
   have q4 : ¬ p = 0 := by omega
   have q5 : (m : Int) < (q.length : Int) := by omega
   have w1 : wrap64 (r.getD (m + g.length - 1) 0 * iv) = r.getD (m + g.length - 1) 0 * iv := w64 (by omega) (by omega)
   simp only [spec_l01Divide.l0, hm, hw]
   rw [if_pos q1, if_pos q2, if_pos q3, if_neg q4, if_pos q1, if_pos q5, rd_nat, w1, tmod_nn hb.1, Int.toNat_natCast, e]
   rfl
 unfold divL
 by_cases hlt : f.length < g.length
 ·
  rw [if_pos hlt]
  refine ⟨0, fun k _ => ?_⟩
  simp only [spec_l01Divide.f, own_some f (by omega), Option.bind_some]
  rw [if_pos (by omega)]
  rfl
 ·
  rw [if_neg hlt]
  have hiv := inv_bd (p := p) (by omega) (g.getD (g.length - 1) 0)
  obtain ⟨K1, h1⟩ := spec_inverse (x := g.getD (g.length - 1) 0) hp hp2
  obtain ⟨K2, h2⟩ := outer _ hiv (f.length - g.length + 1) (List.replicate (f.length - g.length + 1) 0) f (by omega) (by simp) (by omega) (by simp; omega) (by omega) (InR.zeros (by omega) _) rf
  refine ⟨K1 + K2, fun k hk => ?_⟩
  have e1 := h1 k (by omega)
  have e2 := h2 k (by omega)
  simp only at e1 e2
  have a1 : wrap64 ((f.length : Int) - (g.length : Int)) = ((f.length - g.length + 1 : Nat) : Int) - 1 := by rw [w64 (by omega) (by omega)]; omega
  have a2 : wrap64 (((f.length - g.length + 1 : Nat) : Int) - 1 + 1) = ((f.length - g.length + 1 : Nat) : Int) := by rw [w64 (by omega) (by omega)]; omega
  have a3 : wrap64 ((g.length : Int) - 1) = ((g.length - 1 : Nat) : Int) := by rw [w64 (by omega) (by omega)]; omega
  have q1 : ¬ (f.length : Int) < (g.length : Int) := by omega
  have q2 : (0 : Int) ≤ ((f.length - g.length + 1 : Nat) : Int) := by omega
  have q3 : ((f.length - g.length + 1 : Nat) : Int).toNat ≤ 35184372088832 := by omega
  have q4 : (0 : Int) ≤ ((g.length - 1 : Nat) : Int) := by omega
  have q5 : ((g.length - 1 : Nat) : Int) < (g.length : Int) := by omega
  simp only [spec_l01Divide.f, own_some f (show f.length < 17592186044416 by omega), Option.bind_some, a1, a2, a3]
  rw [if_neg q1, if_pos q2, if_pos q3, if_pos q4, if_pos q5, rd_nat, e1, Option.bind_some, Int.toNat_natCast]
  exact e2
theorem impl_div {p x y : Int} (hp : 2 ≤ p) (hp2 : p ≤ 10007) (hx : 0 ≤ x ∧ x < p) (hy : 0 ≤ y ∧ y < p) : Ev (fun k => impl_field_div.f k p x y) (x * inv p y % p) := by
 obtain ⟨K, h⟩ := impl_inverse (x := y) hp hp2 hy.1 hy.2
 have hiv := inv_bd (p := p) (by omega) y
 have hb := mul_bd2 hp2 hx (y := inv p y) (by omega)
 refine ⟨K, fun k hk => ?_⟩
 have e := h k hk
 simp only at e
 have e' : impl_field_inverse.f k p y = some (inv p y) := e
 simp only [impl_field_div.f, e', Option.bind_some, impl_mul (show 0 < p by omega) (show p ≤ 1000000000 by omega) (show -9223372036854775808 ≤ x * inv p y by omega) (show x * inv p y ≤ 9223372036854775807 by omega)]
theorem impl_divide {p : Int} {f g : List Int} (hp : 2 ≤ p) (hp2 : p ≤ 10007) (hf : f.length ≤ 1000) (hg : g.length ≤ 1000) (h0 : 0 < g.length) (rf : InR p f) (rg : InR p g) :
  Ev (fun k => impl_field_divide.f k p f g) (divL p f g) := by
 have hlast := rg.get (by omega) (g.length - 1)
 obtain ⟨iv, hiv0⟩ : ∃ iv, iv = inv p (g.getD (g.length - 1) 0) := ⟨_, rfl⟩
 have hiv : 0 ≤ iv ∧ iv < p := by rw [hiv0]; exact inv_bd (by omega) _
 have inner : ∀ (a : Nat) (c : Int) (q : List Int) (res : List Int × List Int), a ≤ 1000 → a < q.length → q.getD a 0 = c → 0 ≤ c ∧ c < p → ∀ d j (r : List Int), j + d = g.length → a + g.length ≤ r.length → InR p r →
   Ev (fun k => impl_field_divide.l0 k p g (dv1 p c g a r j d) q ((a : Int) - 1)) res → Ev (fun k => impl_field_divide.l1 k p g r q (a : Int) g (g.length : Int) (j : Int)) res := by
  intro a c q res ha1 haq hqc hc d
  induction d with
  | zero =>
   intro j r h1 h2 h3 ⟨K, h⟩
   refine ⟨K + 1, fun k hk => ?_⟩
   obtain ⟨k, rfl⟩ : ∃ m, k = m + 1 := ⟨k - 1, by omega⟩
   have e := h k (by omega)
   simp only [dv1] at e
   simp only [impl_field_divide.l1]
   rw [if_neg (by omega), wm (by omega), e]
  | succ d ih =>
   intro j r h1 h2 h3 h
   obtain ⟨K, h⟩ := ih (j + 1) (r.set (a + j) ((r.getD (a + j) 0 - c * g.getD j 0) % p)) (by omega) (by simpa using h2) (h3.set _ (emod_bd (by omega))) h
   refine ⟨K + 1, fun k hk => ?_⟩
   obtain ⟨k, rfl⟩ : ∃ m, k = m + 1 := ⟨k - 1, by omega⟩
   have e := h k (by omega)
   simp only at e
   have hb := mul_bd2 hp2 hc (y := g.getD j 0) (by have := rg.get (by omega) j; omega)
   have ha := h3.get (by omega) (a + j)
   subst hqc
   exact (impl_dstep k a j hp hp2 (by omega) (by omega) (by omega) haq hb ⟨ha.1, by omega⟩).trans e
 have outer : ∀ m (q r : List Int), m ≤ 1000 → m ≤ q.length → (m = 0 ∨ m + g.length - 1 ≤ r.length) → q.length ≤ 1001 → r.length ≤ 1001 → InR p q → InR p r →
   Ev (fun k => impl_field_divide.l0 k p g r q ((m : Int) - 1)) ((dvR p iv g m q r).1, trimL (dvR p iv g m q r).2) := by
  intro m
  induction m with
  | zero =>
   intro q r h1 h2 h3 h4 h5 h6 h7
   obtain ⟨K', h'⟩ := impl_trim r (by omega)
   refine ⟨K' + 1, fun k hk => ?_⟩
   obtain ⟨k, rfl⟩ : ∃ m, k = m + 1 := ⟨k - 1, by omega⟩
   have e' := h' k (by omega)
   simp only at e'
   simp only [impl_field_divide.l0]
   rw [if_neg (by omega), e']
   rfl
  | succ m ih =>
   intro q r h1 h2 h3 h4 h5 h6 h7
   have hr := h7.get (by omega) (m + g.length - 1)
   have hcb := emod_bd (x := r.getD (m + g.length - 1) 0 * iv) (p := p) (by omega)
   obtain ⟨K0, hd⟩ := impl_div hp hp2 hr hlast
   obtain ⟨K, h⟩ := inner m _ (q.set m (r.getD (m + g.length - 1) 0 * iv % p)) _ (by omega) (by simp; omega) (by simp only [List.getD_eq_getElem?_getD]; rw [List.getElem?_set_self (by omega)]; rfl) hcb g.length 0 r (by omega) (by omega) h7
    (ih (q.set m (r.getD (m + g.length - 1) 0 * iv % p)) (dv1 p (r.getD (m + g.length - 1) 0 * iv % p) g m r 0 g.length) (by omega) (by simp; omega) (by rw [dv1_len]; omega) (by simpa using h4) (by rw [dv1_len]; exact h5) (h6.set _ hcb) (dv1_inR (by omega) _ g m _ _ _ h7))
   refine ⟨K0 + K + 1, fun k hk => ?_⟩
   obtain ⟨k, rfl⟩ : ∃ m, k = m + 1 := ⟨k - 1, by omega⟩
   have e := h k (by omega)
   have ed := hd k (by omega)
   simp only [Int.natCast_zero] at e
   simp only [← hiv0] at ed
   have hm : ((m + 1 : Nat) : Int) - 1 = (m : Int) := by omega
   have hw : wrap64 (wrap64 ((m : Int) + (g.length : Int)) - 1) = ((m + g.length - 1 : Nat) : Int) := by rw [w64 (x := (m : Int) + (g.length : Int)) (by omega) (by omega), w64 (by omega) (by omega)]; omega
   have a3 : wrap64 ((g.length : Int) - 1) = ((g.length - 1 : Nat) : Int) := by rw [w64 (by omega) (by omega)]; omega
   have q1 : (m : Int) ≥ 0 := by omega
   have q2 : (0 : Int) ≤ ((m + g.length - 1 : Nat) : Int) := by omega
   have q3 : ((m + g.length - 1 : Nat) : Int) < (r.length : Int) := by omega
   have q4 : (0 : Int) ≤ ((g.length - 1 : Nat) : Int) := by omega
   have q6 : ((g.length - 1 : Nat) : Int) < (g.length : Int) := by omega
   have q5 : (m : Int) < (q.length : Int) := by omega
   simp only [impl_field_divide.l0, hm, hw, a3]
   rw [if_pos q1, if_pos q2, if_pos q3, if_pos q4, if_pos q6, rd_nat, rd_nat, ed, Option.bind_some, if_pos q1, if_pos q5, Int.toNat_natCast, e]
   rfl
 have hcl : slices_Clone_int64_int64.f f = some f := by simp [slices_Clone_int64_int64.f, show f.length < 17592186044416 by omega]
 unfold divL
 by_cases hlt : f.length < g.length
 ·
  rw [if_pos hlt]
  refine ⟨0, fun k _ => ?_⟩
  simp only [impl_field_divide.f, hcl, Option.bind_some]
  rw [if_pos (by omega)]
 ·
  rw [if_neg hlt]
  obtain ⟨K2, h2⟩ := outer (f.length - g.length + 1) (List.replicate (f.length - g.length + 1) 0) f (by omega) (by simp) (by omega) (by simp; omega) (by omega) (InR.zeros (by omega) _) rf
  refine ⟨K2, fun k hk => ?_⟩
  have e2 := h2 k (by omega)
  simp only at e2
  have a1 : wrap64 ((f.length : Int) - (g.length : Int)) = ((f.length - g.length + 1 : Nat) : Int) - 1 := by rw [w64 (by omega) (by omega)]; omega
  have a2 : wrap64 (((f.length - g.length + 1 : Nat) : Int) - 1 + 1) = ((f.length - g.length + 1 : Nat) : Int) := by rw [w64 (by omega) (by omega)]; omega
  have q1 : ¬ (f.length : Int) < (g.length : Int) := by omega
  have q2 : (0 : Int) ≤ ((f.length - g.length + 1 : Nat) : Int) := by omega
  have q3 : ((f.length - g.length + 1 : Nat) : Int).toNat ≤ 35184372088832 := by omega
  have a4 : wrap64 (((List.replicate (f.length - g.length + 1) (0 : Int)).length : Int) - 1) = ((f.length - g.length + 1 : Nat) : Int) - 1 := by rw [List.length_replicate, wm (by omega)]
  simp only [impl_field_divide.f, hcl, Option.bind_some, a1, a2]
  rw [if_neg q1, if_pos q2, if_pos q3]
  simp only [Int.toNat_natCast, a4]
  rw [e2, hiv0]
theorem inv_ne0 {p x : Int} (hp : IsP p) (hx : 0 < x ∧ x < p) : 0 < inv p x ∧ inv p x < p := by
 have hb := inv_bd (p := p) (by have := hp.1; omega) x
 refine ⟨?_, hb.2⟩
 rcases Int.lt_or_eq_of_le hb.1 with h | h
 ·
  exact h
 ·
  exfalso
  obtain ⟨a, rfl⟩ : ∃ a : Nat, x = a := ⟨x.toNat, by omega⟩
  obtain ⟨n, hn⟩ : ∃ n : Nat, p = n := ⟨p.toNat, by have := hp.1; omega⟩
  subst hn
  have hpr : Pr n := by simpa using hp.2.2
  have hnd : ¬ n ∣ a := fun h => by have := Nat.le_of_dvd (by omega) h; omega
  apply hpr.pow hnd ((n : Int) - 2).toNat
  apply Nat.dvd_of_mod_eq_zero
  have h' : ((a ^ ((n : Int) - 2).toNat % n : Nat) : Int) = 0 := by
   have := h.symm
   unfold inv at this
   simpa using this
  omega
theorem divL_trim {p : Int} {f g : List Int} (hp : IsP p) (pf : Po p f) (pg : Po p g) (hg : 0 < g.length) : trimL (divL p f g).1 = (divL p f g).1 := by
 unfold divL
 by_cases hlt : f.length < g.length
 ·
  rw [if_pos hlt]; rfl
 ·
  rw [if_neg hlt]
  apply trimL_id
  right
  obtain ⟨m, hm⟩ : ∃ m, f.length - g.length + 1 = m + 1 := ⟨f.length - g.length, rfl⟩
  have hp0 : 0 < p := by have := hp.1; omega
  have hl := (dvR_len p (inv p (g.getD (g.length - 1) 0)) g (m + 1) (List.replicate (m + 1) 0) f).1
  simp only [hm]
  rw [hl, List.length_replicate, Nat.add_sub_cancel, dvR, dvR_top _ _ _ _ _ _ _ (Nat.le_refl m)]
  simp only [List.getD_eq_getElem?_getD]
  rw [List.getElem?_set_self (by simp)]
  simp only [Option.getD_some]
  rw [← List.getD_eq_getElem?_getD, ← List.getD_eq_getElem?_getD, show m + g.length - 1 = f.length - 1 by omega]
  exact mul_ne0 hp (pf.last_bd hp0 (by omega)) (inv_ne0 hp (pg.last_bd hp0 hg))
theorem _root_.Go.Proofs.Ytlmolloallhclaa.Num.IsP.p0 {p : Int} (h : IsP p) : 0 < p := by have := h.1; omega
def co (l : List Int) (i : Nat) : Int := l.getD i 0
theorem co_ge {l : List Int} {i : Nat} (h : l.length ≤ i) : co l i = 0 := by simp [co, List.getD_eq_getElem?_getD, h]
theorem co_set (l : List Int) (i j : Nat) (x : Int) (h : i < l.length) : co (l.set i x) j = if j = i then x else co l j := by
 unfold co
 simp only [List.getD_eq_getElem?_getD]
 by_cases e : j = i
 ·
  subst e; rw [List.getElem?_set_self h, if_pos rfl]; rfl
 ·
  rw [List.getElem?_set_ne (Ne.symm e), if_neg e]
theorem co_take {l : List Int} {n i : Nat} : co (l.take n) i = if i < n then co l i else 0 := by
 unfold co
 simp only [List.getD_eq_getElem?_getD, List.getElem?_take]
 split <;> rfl
theorem InR.co {p : Int} {l : List Int} (h : InR p l) (hp : 0 < p) (i : Nat) : 0 ≤ co l i ∧ co l i < p := h.get hp i
theorem tlen_zero (l : List Int) : ∀ n i, tlen l n ≤ i → i < n → l.getD i 0 = 0
 | 0, i, _, h => by omega
 | n + 1, i, h1, h2 => by
  unfold tlen at h1
  split at h1
  ·
   rename_i h0
   by_cases e : i = n
   ·
    subst e; exact h0
   ·
    exact tlen_zero l n i h1 (by omega)
  ·
   omega
theorem tlen_last (l : List Int) : ∀ n, tlen l n = 0 ∨ l.getD (tlen l n - 1) 0 ≠ 0
 | 0 => .inl rfl
 | n + 1 => by
  unfold tlen
  split
  ·
   exact tlen_last l n
  ·
   right; simpa using ‹_›
theorem trimL_length (l : List Int) : (trimL l).length = tlen l l.length := by
 unfold trimL; rw [List.length_take, Nat.min_eq_left (tlen_le _ _)]
theorem co_trim (l : List Int) (i : Nat) : co (trimL l) i = co l i := by
 unfold trimL
 rw [co_take]
 split
 ·
  rfl
 ·
  rename_i h
  by_cases hi : i < l.length
  ·
   exact (tlen_zero l l.length i (by omega) hi).symm
  ·
   exact (co_ge (by omega)).symm
def Nz (l : List Int) : Prop := l.length = 0 ∨ co l (l.length - 1) ≠ 0
theorem Nz.trim (l : List Int) : Nz (trimL l) := by
 unfold Nz
 rw [co_trim, trimL_length]
 exact tlen_last l l.length
theorem Nz.len_le {l : List Int} (h : Nz l) {n : Nat} (hz : ∀ i, n ≤ i → co l i = 0) : l.length ≤ n := by
 rcases h with h | h
 ·
  omega
 ·
  rcases Nat.lt_or_ge n l.length with hl | hl
  ·
   exact absurd (hz _ (by omega)) h
  ·
   exact hl
theorem Po.nz {p : Int} {l : List Int} (h : Po p l) : Nz l := by
 rcases h.last with h0 | h0
 ·
  exact .inl h0
 ·
  by_cases hl : l.length = 0
  ·
   exact .inl hl
  ·
   right
   unfold co
   rwa [← rd_nat, show ((l.length - 1 : Nat) : Int) = (l.length : Int) - 1 by omega]
theorem Po.of {p : Int} {l : List Int} (hl : l.length ≤ 25) (hr : InR p l) (hz : Nz l) : Po p l := by
 refine ⟨hl, hr, ?_⟩
 rcases hz with h | h
 ·
  exact .inl h
 ·
  by_cases h0 : l.length = 0
  ·
   exact .inl h0
  ·
   right
   unfold co at h
   rwa [← rd_nat, show ((l.length - 1 : Nat) : Int) = (l.length : Int) - 1 by omega] at h
theorem Nz.top {p : Int} {l : List Int} (h : Nz l) (hr : InR p l) (hp : 0 < p) (h0 : 0 < l.length) : 0 < co l (l.length - 1) ∧ co l (l.length - 1) < p := by
 have h1 := hr.co hp (l.length - 1)
 rcases h with h2 | h2
 ·
  omega
 ·
  omega
theorem inv_one {p x : Int} (hp : IsP p) (hx : 0 < x ∧ x < p) : cg p (x * inv p x) 1 := inv_cg hp (by rw [Int.emod_eq_of_lt (by omega) hx.2]; omega)
theorem dv1_get (p q : Int) (g : List Int) (a t : Nat) : ∀ d j r, a + j + d ≤ r.length → co (dv1 p q g a r j d) t = if a + j ≤ t ∧ t < a + j + d then (co r t - q * co g (t - a)) % p else co r t
 | 0, j, r, h => by rw [if_neg (by omega)]; rfl
 | d + 1, j, r, h => by
  rw [dv1, dv1_get p q g a t d (j + 1) _ (by simpa using by omega), co_set _ _ _ _ (by omega)]
  by_cases e : t = a + j
  ·
   subst e
   rw [if_neg (by omega), if_pos rfl, if_pos (by omega), show a + j - a = j by omega]
   rfl
  ·
   rw [if_neg e]
   by_cases h2 : a + (j + 1) ≤ t ∧ t < a + (j + 1) + d
   ·
    rw [if_pos h2, if_pos (by omega)]
   ·
    rw [if_neg h2, if_neg (by omega)]
def sh (g : List Int) (m t : Nat) : Int := if m ≤ t then co g (t - m) else 0
theorem dv1_cg {p : Int} (c : Int) (g r : List Int) (m t : Nat) (h : m + g.length ≤ r.length) : cg p (co r t) (co (dv1 p c g m r 0 g.length) t + c * sh g m t) := by
 rw [dv1_get p c g m t g.length 0 r (by omega)]
 unfold sh
 by_cases h1 : m + 0 ≤ t ∧ t < m + 0 + g.length
 ·
  rw [if_pos h1, if_pos (by omega)]
  have := (cg.mod p (co r t - c * co g (t - m))).symm.add (cg.refl (c * co g (t - m)))
  rwa [show co r t - c * co g (t - m) + c * co g (t - m) = co r t by omega] at this
 ·
  rw [if_neg h1]
  by_cases h2 : m ≤ t
  ·
   rw [if_pos h2, co_ge (show g.length ≤ t - m by omega), Int.mul_zero, Int.add_zero]; exact cg.refl _
  ·
   rw [if_neg h2, Int.mul_zero, Int.add_zero]; exact cg.refl _
theorem dvR_cg (p iv : Int) (g : List Int) (t : Nat) : ∀ m (q r : List Int), (m = 0 ∨ m + g.length ≤ r.length + 1) → m ≤ q.length →
  cg p (co r t) (co (dvR p iv g m q r).2 t + su (fun i => co (dvR p iv g m q r).1 i * sh g i t) m)
 | 0, q, r, _, _ => by simp only [dvR, su, Int.add_zero]; exact cg.refl _
 | m + 1, q, r, h, hq => by
  rw [dvR]
  have hq2 := dvR_top p iv g m m (q.set m (r.getD (m + g.length - 1) 0 * iv % p)) (dv1 p (r.getD (m + g.length - 1) 0 * iv % p) g m r 0 g.length) (Nat.le_refl m)
  have hc : co (q.set m (r.getD (m + g.length - 1) 0 * iv % p)) m = r.getD (m + g.length - 1) 0 * iv % p := by rw [co_set _ _ _ _ (by omega), if_pos rfl]
  have ih := dvR_cg p iv g t m (q.set m (r.getD (m + g.length - 1) 0 * iv % p)) (dv1 p (r.getD (m + g.length - 1) 0 * iv % p) g m r 0 g.length) (by rw [dv1_len]; omega) (by simp; omega)
  have h1 := dv1_cg (p := p) (r.getD (m + g.length - 1) 0 * iv % p) g r m t (by omega)
  refine h1.trans ?_
  rw [su]
  have e : co (dvR p iv g m (q.set m (r.getD (m + g.length - 1) 0 * iv % p)) (dv1 p (r.getD (m + g.length - 1) 0 * iv % p) g m r 0 g.length)).1 m = r.getD (m + g.length - 1) 0 * iv % p := hq2.trans hc
  rw [e]
  have := ih.add (cg.refl (r.getD (m + g.length - 1) 0 * iv % p * sh g m t))
  rwa [Int.add_assoc] at this
theorem dvR_high {p iv : Int} (g : List Int) (h0 : 0 < g.length) (hp : 0 < p) (hiv : cg p (co g (g.length - 1) * iv) 1) : ∀ m (q r : List Int), (m = 0 ∨ m + g.length ≤ r.length + 1) → InR p r → (∀ t, m + g.length - 1 ≤ t → co r t = 0) →
  ∀ t, g.length - 1 ≤ t → co (dvR p iv g m q r).2 t = 0
 | 0, q, r, _, _, hz, t, ht => hz t (by omega)
 | m + 1, q, r, h, hr, hz, t, ht => by
  rw [dvR]
  refine dvR_high g h0 hp hiv m _ _ (by rw [dv1_len]; omega) (dv1_inR hp _ g m _ _ _ hr) (fun t ht => ?_) t ht
  rw [dv1_get _ _ _ _ _ _ _ _ (by omega)]
  by_cases e : t = m + g.length - 1
  ·
   subst e
   rw [if_pos (by omega), show m + g.length - 1 - m = g.length - 1 by omega]
   have h1 : cg p (co r (m + g.length - 1) * iv % p * co g (g.length - 1)) (co r (m + g.length - 1)) := by
    refine ((cg.mod _ _).mul (cg.refl _)).trans ?_
    have := (cg.refl (co r (m + g.length - 1))).mul hiv
    rw [Int.mul_one] at this
    refine (cg.of_eq ?_).trans this
    rw [Int.mul_assoc, Int.mul_comm iv]
   have h2 := (cg.refl (co r (m + g.length - 1))).sub h1
   rw [Int.sub_self] at h2
   exact cg.zero.1 h2
  ·
   rw [if_neg (by omega)]
   exact hz t (by omega)
theorem divL_facts {p : Int} {f g : List Int} (hp : IsP p) (rf : InR p f) (rg : InR p g) (zg : Nz g) (h0 : 0 < g.length) :
  (∀ t, cg p (co f t) (cv (co (divL p f g).1) (co g) t + co (divL p f g).2 t)) ∧ (Nz f → (divL p f g).2.length < g.length) ∧ (Nz f → Nz (divL p f g).2) ∧ InR p (divL p f g).1 ∧ InR p (divL p f g).2 ∧ (divL p f g).1.length = f.length + 1 - g.length := by
 have hiv := inv_one hp (zg.top rg hp.p0 h0)
 have hib := inv_bd hp.p0 (co g (g.length - 1))
 unfold divL
 by_cases hlt : f.length < g.length
 ·
  rw [if_pos hlt]
  refine ⟨fun t => ?_, fun _ => hlt, fun h => h, InR.nil, rf, by simp; omega⟩
  have : cv (co []) (co g) t = 0 := su_zero fun i _ => by rw [co_ge (by simp), Int.zero_mul]
  simp only [this, Int.zero_add]
  exact cg.refl _
 ·
  rw [if_neg hlt]
  have hl := dvR_len p (inv p (g.getD (g.length - 1) 0)) g (f.length - g.length + 1) (List.replicate (f.length - g.length + 1) 0) f
  have hr := dvR_inR hp.p0 (inv p (g.getD (g.length - 1) 0)) g (f.length - g.length + 1) (List.replicate (f.length - g.length + 1) 0) f (InR.zeros hp.p0 _) rf
  have hhigh := dvR_high (p := p) (iv := inv p (g.getD (g.length - 1) 0)) g h0 hp.p0 hiv (f.length - g.length + 1) (List.replicate (f.length - g.length + 1) 0) f (by omega) rf (fun t ht => co_ge (by omega))
  refine ⟨fun t => ?_, fun _ => ?_, fun _ => Nz.trim _, hr.1, hr.2.trim, by rw [hl.1, List.length_replicate]; omega⟩
  ·
   have h := dvR_cg p (inv p (g.getD (g.length - 1) 0)) g t (f.length - g.length + 1) (List.replicate (f.length - g.length + 1) 0) f (by omega) (by simp)
   simp only
   rw [co_trim, Int.add_comm]
   refine h.trans ((cg.refl _).add (cg.of_eq ?_))
   generalize hq : (dvR p (inv p (g.getD (g.length - 1) 0)) g (f.length - g.length + 1) (List.replicate (f.length - g.length + 1) 0) f).1 = q at hl ⊢
   have hql : q.length = f.length - g.length + 1 := by rw [hl.1, List.length_replicate]
   have e1 : su (fun i => co q i * sh g i t) (f.length - g.length + 1) = su (fun i => co q i * sh g i t) (max (f.length - g.length + 1) (t + 1)) :=
    (su_ext (Nat.le_max_left _ _) fun i hi _ => by rw [co_ge (by omega), Int.zero_mul]).symm
   have e2 : su (fun i => co q i * sh g i t) (max (f.length - g.length + 1) (t + 1)) = su (fun i => co q i * sh g i t) (t + 1) :=
    su_ext (Nat.le_max_right _ _) fun i hi _ => by unfold sh; rw [if_neg (by omega), Int.mul_zero]
   rw [e1, e2]
   exact su_congr fun i hi => by unfold sh; rw [if_pos (by omega)]
  ·
   have h1 : (trimL (dvR p (inv p (g.getD (g.length - 1) 0)) g (f.length - g.length + 1) (List.replicate (f.length - g.length + 1) 0) f).2).length ≤ g.length - 1 :=
    (Nz.trim _).len_le fun i hi => by rw [co_trim]; exact hhigh i hi
   simp only
   omega
def Dv (p : Int) (d f : List Int) : Prop := ∃ (Q : Nat → Int) (N : Nat), (∀ i, N ≤ i → Q i = 0) ∧ ∀ t, cg p (co f t) (cv Q (co d) t)
theorem co_nil (t : Nat) : co [] t = 0 := co_ge (Nat.zero_le _)
theorem Dv.zero (p : Int) (d : List Int) : Dv p d [] := ⟨fun _ => 0, 0, fun _ _ => rfl, fun t => by rw [cv_zero, co_nil]; exact cg.refl 0⟩
def tot : List (List Int) → Nat
 | [] => 0
 | l :: ls => l.length + tot ls
def upS : Int → List (List Int) → List (List Int)
 | _, [] => []
 | n, l :: ls => up n l.length :: upS (n + l.length) ls
theorem tot_le (c : Nat) : ∀ ls : List (List Int), (∀ l ∈ ls, l.length ≤ c) → tot ls ≤ c * ls.length
 | [], _ => by simp [tot]
 | l :: ls, h => by
  have h1 := h l (by simp)
  have h2 := tot_le c ls fun x hx => h x (by simp [hx])
  rw [tot, List.length_cons, Nat.mul_succ]; omega
theorem get_mid (pre : List (List Int)) (l : List Int) (post : List (List Int)) : (pre ++ l :: post).getD pre.length [] = l := by
 rw [List.getD_eq_getElem?_getD, List.getElem?_append_right (Nat.le_refl _), Nat.sub_self]; rfl
theorem rd_mid (pre : List (List Int)) (l : List Int) (post : List (List Int)) : rd_L1 (pre ++ l :: post) (pre.length : Int) = l := by
 unfold rd_L1; rw [Int.toNat_natCast]; exact get_mid pre l post
theorem set_mid (pre : List (List Int)) (l l' : List Int) (post : List (List Int)) : (pre ++ l :: post).set pre.length l' = (pre ++ [l']) ++ post := by
 rw [List.set_append_right _ _ (Nat.le_refl _), Nat.sub_self]; simp
theorem markS_loop : ∀ (todo pre : List (List Int)) (n : Int), (∀ l ∈ todo, l.length ≤ 2000000) → 0 ≤ n → n + tot todo ≤ 100000000 → pre.length + todo.length ≤ 1000000 →
  Ev (fun k => laws_markInt64SS.l0 k (pre ++ todo) n (pre.length : Int)) (n + tot todo, pre ++ upS n todo)
 | [], pre, n, _, _, _, hl => by
  have q1 : ¬ ((pre.length : Int) < ((pre ++ ([] : List (List Int))).length : Int)) := by simp
  refine Ev.succ ?_
  simp only [laws_markInt64SS.l0, if_neg q1, upS, tot]
  exact Ev_to (Ev.now _) (by simp)
 | l :: todo, pre, n, hb, h0, ht, hl => by
  have hbl := hb l (by simp)
  have e1 : (tot (l :: todo) : Int) = l.length + tot todo := by rw [tot]; omega
  simp only [List.length_cons] at hl
  have q1 : ((pre.length : Int) < ((pre ++ l :: todo).length : Int)) := by simp; omega
  have q2 : (0 : Int) ≤ (pre.length : Int) := by omega
  have hm := mark_up l hbl n h0 (by omega)
  have ih := markS_loop todo (pre ++ [up n l.length]) (n + l.length) (fun x hx => hb x (by simp [hx])) (by omega) (by omega) (by simp; omega)
  refine Ev.succ ?_
  simp only [laws_markInt64SS.l0, if_pos q1, if_pos q2, Int.toNat_natCast, get_mid, set_mid]
  refine Ev.bind hm ?_
  simp only [set_mid, wp1 (show pre.length ≤ 1000000000000 by omega)]
  rw [show ((pre ++ [up n l.length]).length : Int) = ((pre.length + 1 : Nat) : Int) by simp] at ih
  refine Ev_to ih ?_
  rw [upS, e1]
  simp only [List.append_assoc, List.singleton_append, Int.add_assoc]
theorem markS_up (ls : List (List Int)) (hb : ∀ l ∈ ls, l.length ≤ 2000000) (n : Int) (h0 : 0 ≤ n) (ht : n + tot ls ≤ 100000000) (hl : ls.length ≤ 1000000) : Ev (fun k => laws_markInt64SS.f k ls n) (n + tot ls, upS n ls) := by
 simp only [laws_markInt64SS.f]
 exact markS_loop ls [] n hb h0 ht (by simpa using hl)
theorem heldS_loop : ∀ (todo pre : List (List Int)) (n : Int), (∀ l ∈ todo, l.length ≤ 2000000) → 0 ≤ n → n + tot todo ≤ 100000000 → pre.length + todo.length ≤ 1000000 →
  Ev (fun k => laws_heldInt64SS.l0 k (pre ++ upS n todo) n (pre.length : Int)) (n + tot todo)
 | [], pre, n, _, _, _, hl => by
  have q1 : ¬ ((pre.length : Int) < ((pre ++ upS n []).length : Int)) := by simp [upS]
  refine Ev.succ ?_
  simp only [laws_heldInt64SS.l0, if_neg q1, tot]
  exact Ev_to (Ev.now _) (by simp)
 | l :: todo, pre, n, hb, h0, ht, hl => by
  have hbl := hb l (by simp)
  have e1 : (tot (l :: todo) : Int) = l.length + tot todo := by rw [tot]; omega
  simp only [List.length_cons] at hl
  have q1 : ((pre.length : Int) < ((pre ++ upS n (l :: todo)).length : Int)) := by rw [upS]; simp; omega
  have q2 : (0 : Int) ≤ (pre.length : Int) := by omega
  have q3 : ¬ (n + (l.length : Int) < 0) := by omega
  have hm := held_up l.length hbl n h0 (by omega)
  have ih := heldS_loop todo (pre ++ [up n l.length]) (n + l.length) (fun x hx => hb x (by simp [hx])) (by omega) (by omega) (by simp; omega)
  refine Ev.succ ?_
  simp only [laws_heldInt64SS.l0, if_pos q1, if_pos q2]
  rw [upS]
  simp only [rd_mid]
  refine Ev.bind hm ?_
  simp only [if_neg q3, wp1 (show pre.length ≤ 1000000000000 by omega)]
  rw [show ((pre ++ [up n l.length]).length : Int) = ((pre.length + 1 : Nat) : Int) by simp, List.append_assoc, List.singleton_append] at ih
  exact Ev_to ih (by rw [e1]; omega)
theorem heldS_up (ls : List (List Int)) (hb : ∀ l ∈ ls, l.length ≤ 2000000) (n : Int) (h0 : 0 ≤ n) (ht : n + tot ls ≤ 100000000) (hl : ls.length ≤ 1000000) : Ev (fun k => laws_heldInt64SS.f k (upS n ls) n) (n + tot ls) := by
 simp only [laws_heldInt64SS.f]
 exact heldS_loop ls [] n hb h0 ht (by simpa using hl)
theorem eqS_same (ls : List (List Int)) (hb : ∀ l ∈ ls, l.length ≤ 2000000) (hl : ls.length ≤ 1000000) : Ev (fun k => laws_eqInt64SS.f k ls ls) true := by
 have loop : ∀ d i, i + d = ls.length → Ev (fun k => laws_eqInt64SS.l0 k ls ls (i : Int)) true := by
  intro d
  induction d with
  | zero =>
   intro i hi
   have q1 : ¬ ((i : Int) < (ls.length : Int)) := by omega
   refine Ev.succ ?_
   simp only [laws_eqInt64SS.l0, if_neg q1]; exact Ev.now _
  | succ d ih =>
   intro i hi
   have q1 : (i : Int) < (ls.length : Int) := by omega
   have q2 : (0 : Int) ≤ (i : Int) := by omega
   have hrd : rd_L1 ls (i : Int) = ls[i]'(by omega) := by simp [rd_L1, List.getD_eq_getElem?_getD, show i < ls.length by omega]
   have he : Ev (fun k => laws_eqInt64S.f k (rd_L1 ls (i : Int)) (rd_L1 ls (i : Int))) true := eqI_same _ (by rw [hrd]; exact hb _ (List.getElem_mem _))
   refine Ev.succ ?_
   simp only [laws_eqInt64SS.l0, if_pos q1, if_pos q2]
   refine Ev.bind he ?_
   simp only [if_true, wp1 (show i ≤ 1000000000000 by omega)]
   exact ih (i + 1) (by omega)
 simp only [laws_eqInt64SS.f, if_true]
 exact loop ls.length 0 (by omega)
def quoF (p : Int) : Nat → List Int → List Int → List (List Int)
 | 0, _, _ => []
 | n + 1, f, g => if g.length = 0 then [] else (divL p f g).1 :: quoF p n g (divL p f g).2
theorem quo_len (p : Int) : ∀ n f g, (quoF p n f g).length ≤ n
 | 0, _, _ => by simp [quoF]
 | n + 1, f, g => by
  rw [quoF]; split
  ·
   simp
  ·
   have := quo_len p n g (divL p f g).2; simp only [List.length_cons]; omega
theorem quo_el {p : Int} (hp : IsP p) : ∀ n f g, Po p f → Po p g → ∀ l ∈ quoF p n f g, l.length ≤ 26
 | 0, f, g, _, _, l, hl => by simp [quoF] at hl
 | n + 1, f, g, pf, pg, l, hl => by
  have lf := pf.len
  have lg := pg.len
  rw [quoF] at hl
  by_cases h0 : g.length = 0
  ·
   rw [if_pos h0] at hl; simp at hl
  ·
   rw [if_neg h0] at hl
   obtain ⟨d1, d2, d3, d4, d5, d6⟩ := divL_facts hp pf.inR pg.inR pg.nz (by omega)
   have hr := d2 pf.nz
   rcases List.mem_cons.1 hl with rfl | hl
   ·
    omega
   ·
    exact quo_el hp n g (divL p f g).2 pg (Po.of (by omega) d5 (d3 pf.nz)) l hl
theorem spec_quo {p : Int} (hp : IsP p) : ∀ (n : Nat) (f g : List Int) (acc : List (List Int)), Po p f → Po p g → g.length < n → acc.length + n ≤ 1000 → Ev (fun k => spec_QuotientsOf.l0 k p f g acc) (acc ++ quoF p n f g, 0)
 | 0, _, _, _, _, _, h, _ => by omega
 | n + 1, f, g, acc, pf, pg, h, ha => by
  have lf := pf.len
  have lg := pg.len
  refine Ev.succ ?_
  by_cases h0 : g.length = 0
  ·
   have q1 : ¬ ((g.length : Int) > 0) := by omega
   simp only [spec_QuotientsOf.l0, if_neg q1, quoF, if_pos h0, List.append_nil]
   exact Ev.now _
  ·
   have q1 : (g.length : Int) > 0 := by omega
   have q2 : acc.length < 5864062014805 := by omega
   obtain ⟨d1, d2, d3, d4, d5, d6⟩ := divL_facts hp pf.inR pg.inR pg.nz (by omega)
   have hr := d2 pf.nz
   have hs := spec_divide hp.1 hp.2.1 (by omega) (by omega) (by omega) pf.inR pg.inR
   rw [divL_trim hp pf pg (by omega)] at hs
   have ih := spec_quo hp n g (divL p f g).2 (acc ++ [(divL p f g).1]) pg (Po.of (by omega) d5 (d3 pf.nz)) (by omega) (by simp; omega)
   simp only [spec_QuotientsOf.l0, if_pos q1, quoF, if_neg h0]
   refine Ev.bind hs ?_
   simp only [if_pos q2]
   exact Ev_to ih (by simp)
theorem impl_quo {p : Int} (hp : IsP p) : ∀ (n : Nat) (f g : List Int) (acc : List (List Int)), Po p f → Po p g → g.length < n → acc.length + n ≤ 1000 → Ev (fun k => impl_QuotientsOf.l0 k p f g acc) (acc ++ quoF p n f g, 0)
 | 0, _, _, _, _, _, h, _ => by omega
 | n + 1, f, g, acc, pf, pg, h, ha => by
  have lf := pf.len
  have lg := pg.len
  refine Ev.succ ?_
  by_cases h0 : g.length = 0
  ·
   have q1 : ¬ ((g.length : Int) > 0) := by omega
   simp only [impl_QuotientsOf.l0, if_neg q1, quoF, if_pos h0, List.append_nil]
   exact Ev.now _
  ·
   have q1 : (g.length : Int) > 0 := by omega
   have q2 : acc.length < 5864062014805 := by omega
   obtain ⟨d1, d2, d3, d4, d5, d6⟩ := divL_facts hp pf.inR pg.inR pg.nz (by omega)
   have hr := d2 pf.nz
   have hs := impl_divide hp.1 hp.2.1 (by omega) (by omega) (by omega) pf.inR pg.inR
   have ih := impl_quo hp n g (divL p f g).2 (acc ++ [(divL p f g).1]) pg (Po.of (by omega) d5 (d3 pf.nz)) (by omega) (by simp; omega)
   simp only [impl_QuotientsOf.l0, if_pos q1, quoF, if_neg h0]
   refine Ev.bind hs ?_
   simp only [if_pos q2]
   exact Ev_to ih (by simp)
def ls (p : Int) (V : Nat → Int) (N : Nat) : List Int := trimL ((List.range N).map fun i => V i % p)
end Go.Proofs.Ytlmolloallhclaa.H
