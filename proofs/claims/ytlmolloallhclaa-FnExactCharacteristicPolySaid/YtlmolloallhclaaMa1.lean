/- Joined texts of a claim: the printed functions and what is proved of them. -/
import Derived.RowKit
import Derived.Test.YtlmolloallhclaaYHx0
import Derived.Test.YtlmolloallhclaaYWLast
set_option linter.unusedVariables false
set_option linter.unusedSimpArgs false
namespace Go.Proofs.Ytlmolloallhclaa.Num
open Go.RowKit
theorem w64 {x : Int} (h1 : -9223372036854775808 ≤ x) (h2 : x ≤ 9223372036854775807) : wrap64 x = x := by
 unfold wrap64; omega
theorem tmod_nn {a b : Int} (h : 0 ≤ a) : Int.tmod a b = a % b := Int.tmod_eq_emod_of_nonneg h
theorem tmod_lt' {x p : Int} (hp : 0 < p) : Int.tmod x p < p ∧ -p < Int.tmod x p := by
 constructor
 ·
  exact Int.tmod_lt_of_pos x hp
 ·
  have h := Int.tmod_lt_of_pos (-x) hp
  rw [Int.neg_tmod] at h
  omega
theorem md {x p : Int} (hp : 0 < p) (hp2 : p ≤ 1000000000) : Int.tmod (wrap64 (Int.tmod x p + p)) p = x % p := by
 obtain ⟨h1, h2⟩ := tmod_lt' (x := x) hp
 rw [w64 (by omega) (by omega), tmod_nn (by omega), Int.tmod_def]
 have : x - p * x.tdiv p + p = x + p * (1 - x.tdiv p) := by
  rw [Int.mul_sub]; omega
 rw [this, Int.add_mul_emod_self_left]
theorem emod_bd {x p : Int} (hp : 0 < p) : 0 ≤ x % p ∧ x % p < p := ⟨Int.emod_nonneg _ (by omega), Int.emod_lt_of_pos _ hp⟩
theorem mul_bd {x y a b : Int} (hx0 : 0 ≤ x) (hx : x ≤ a) (hy0 : 0 ≤ y) (hy : y ≤ b) : 0 ≤ x * y ∧ x * y ≤ a * b :=
 ⟨Int.mul_nonneg hx0 hy0, Int.mul_le_mul hx hy hy0 (by omega)⟩
theorem em_l (a b p : Int) : a % p * b % p = a * b % p := by rw [Int.mul_emod, Int.emod_emod, ← Int.mul_emod]
theorem en_ (b p : Int) : (-(b % p)) % p = (-b) % p := by
 have h : -(b % p) = -b + p * (b / p) := by have := Int.mul_ediv_add_emod b p; omega
 rw [h, Int.add_mul_emod_self_left]
def Pr (p : Nat) : Prop := 2 ≤ p ∧ ∀ d, d ∣ p → d = 1 ∨ d = p
theorem Pr.of_trial {p : Nat} (h2 : 2 ≤ p) (h : ∀ d, 2 ≤ d → d * d ≤ p → p % d ≠ 0) : Pr p := by
 refine ⟨h2, fun d hd => ?_⟩
 obtain ⟨e, he⟩ := hd
 have hd0 : 0 < d := by rcases Nat.eq_zero_or_pos d with h0 | h0; (subst h0; simp at he; omega); exact h0
 have he0 : 0 < e := by rcases Nat.eq_zero_or_pos e with h0 | h0; (subst h0; simp at he; omega); exact h0
 rcases Nat.lt_or_ge d 2 with h1 | h1
 ·
  left; omega
 rcases Nat.lt_or_ge e 2 with h3 | h3
 ·
  right
  have : e = 1 := by omega
  subst this; simpa using he.symm
 ·
  exfalso
  rcases Nat.le_total d e with hle | hle
  ·
   refine h d h1 ?_ ?_
   ·
    rw [he]; exact Nat.mul_le_mul_left d hle
   ·
    rw [he]; exact Nat.mul_mod_right d e
  ·
   refine h e h3 ?_ ?_
   ·
    rw [he]; exact Nat.mul_le_mul_right e hle
   ·
    rw [he]; exact Nat.mul_mod_left d e
theorem Pr.cop {p a : Nat} (hp : Pr p) (ha : ¬ p ∣ a) : Nat.Coprime p a := by
 rcases hp.2 _ (Nat.gcd_dvd_left p a) with h | h
 ·
  exact h
 ·
  exact absurd (h ▸ Nat.gcd_dvd_right p a) ha
theorem Pr.euclid {p a b : Nat} (hp : Pr p) (h : p ∣ a * b) : p ∣ a ∨ p ∣ b := by
 by_cases ha : p ∣ a
 ·
  exact .inl ha
 ·
  exact .inr ((hp.cop ha).dvd_of_dvd_mul_left h)
theorem Pr.pow {p a : Nat} (hp : Pr p) (ha : ¬ p ∣ a) : ∀ n, ¬ p ∣ a ^ n
 | 0 => fun h => by
  have h1 := Nat.le_of_dvd (by simp) h
  have := hp.1
  simp only [Nat.pow_zero] at h1
  omega
 | n + 1 => fun h => by
  rw [Nat.pow_succ] at h
  rcases hp.euclid h with h | h
  ·
   exact Pr.pow hp ha n h
  ·
   exact ha h
def ch : Nat → Nat → Nat
 | _, 0 => 1
 | 0, _ + 1 => 0
 | n + 1, k + 1 => ch n k + ch n (k + 1)
theorem ch_gt : ∀ n k, n < k → ch n k = 0
 | 0, k + 1, _ => by simp [ch]
 | n + 1, k + 1, h => by simp [ch, ch_gt n k (by omega), ch_gt n (k + 1) (by omega)]
theorem ch_self : ∀ n, ch n n = 1
 | 0 => by simp [ch]
 | n + 1 => by simp [ch, ch_self n, ch_gt n (n + 1) (by omega)]
theorem ch_mul : ∀ n k, (k + 1) * ch (n + 1) (k + 1) = (n + 1) * ch n k
 | 0, 0 => by simp [ch]
 | 0, k + 1 => by simp [ch]
 | n + 1, 0 => by
  have h := ch_mul n 0
  have h0 : ch n 0 = 1 := by cases n <;> simp [ch]
  have h00 : ch (n+1) 0 = 1 := by simp [ch]
  have e : ch (n + 1 + 1) (0 + 1) = ch (n + 1) 0 + ch (n + 1) (0 + 1) := by simp [ch]
  rw [e, h00]
  rw [h0] at h
  omega
 | n + 1, k + 1 => by
  have h1 := ch_mul n k
  have h2 := ch_mul n (k + 1)
  have e1 : ch (n + 1 + 1) (k + 1 + 1) = ch (n + 1) (k + 1) + ch (n + 1) (k + 1 + 1) := by simp [ch]
  have e2 : ch (n + 1) (k + 1) = ch n k + ch n (k + 1) := by simp [ch]
  rw [e1, Nat.mul_add]
  rw [h2]
  have : (k + 1 + 1) * ch (n + 1) (k + 1) = ch (n + 1) (k + 1) + (k + 1) * ch (n + 1) (k + 1) := by
   rw [Nat.add_mul (k+1) 1, Nat.one_mul]; omega
  rw [this, h1]
  have e3 : (n + 1 + 1) * ch (n + 1) (k + 1) = (n + 1) * ch (n + 1) (k + 1) + ch (n + 1) (k + 1) := by rw [Nat.add_mul, Nat.one_mul]
  rw [e3, e2, Nat.mul_add]
  omega
def sm (f : Nat → Nat) : Nat → Nat
 | 0 => 0
 | n + 1 => sm f n + f n
theorem sm_head (f : Nat → Nat) : ∀ n, sm f (n + 1) = f 0 + sm (fun k => f (k + 1)) n
 | 0 => by simp [sm]
 | n + 1 => by
  have h := sm_head f n
  rw [show sm f (n + 1 + 1) = sm f (n + 1) + f (n + 1) from rfl, h]
  simp only [sm]; omega
theorem sm_add (f g : Nat → Nat) : ∀ n, sm (fun k => f k + g k) n = sm f n + sm g n
 | 0 => rfl
 | n + 1 => by simp only [sm, sm_add f g n]; omega
theorem sm_mul (a : Nat) (f : Nat → Nat) : ∀ n, sm (fun k => a * f k) n = a * sm f n
 | 0 => rfl
 | n + 1 => by simp only [sm, sm_mul a f n]; rw [Nat.mul_add]
theorem sm_congr {f g : Nat → Nat} (h : ∀ k, f k = g k) (n : Nat) : sm f n = sm g n := by
 have : f = g := funext h
 rw [this]
theorem binom (a : Nat) : ∀ n, (a + 1) ^ n = sm (fun k => ch n k * a ^ k) (n + 1)
 | 0 => by simp [sm, ch]
 | n + 1 => by
  rw [Nat.pow_succ, binom a n, sm_head (fun k => ch (n + 1) k * a ^ k) (n + 1)]
  have e : sm (fun k => ch (n + 1) (k + 1) * a ^ (k + 1)) (n + 1) = sm (fun k => a * (ch n k * a ^ k)) (n + 1) + sm (fun k => ch n (k + 1) * a ^ (k + 1)) (n + 1) := by
   rw [← sm_add]
   refine sm_congr (fun k => ?_) _
   simp only [ch]
   rw [Nat.add_mul, Nat.pow_succ]
   have : ch n k * (a ^ k * a) = a * (ch n k * a ^ k) := by
    rw [← Nat.mul_assoc, Nat.mul_comm]
   rw [this]
  rw [e, sm_mul]
  have e2 : sm (fun k => ch n (k + 1) * a ^ (k + 1)) (n + 1) = sm (fun k => ch n (k + 1) * a ^ (k + 1)) n := by
   simp only [sm]; rw [ch_gt n (n + 1) (by omega)]; simp
  rw [e2]
  have e3 := sm_head (fun k => ch n k * a ^ k) n
  have h0 : ch n 0 = 1 := by cases n <;> simp [ch]
  have h00 : ch (n+1) 0 = 1 := by simp [ch]
  rw [h0] at e3
  rw [h00]
  simp only [Nat.pow_zero, Nat.mul_one] at e3 ⊢
  rw [Nat.mul_add, Nat.mul_one, Nat.mul_comm a]
  omega
theorem sm_dvd {p : Nat} (f : Nat → Nat) : ∀ n, (∀ k, k < n → p ∣ f k) → p ∣ sm f n
 | 0, _ => ⟨0, rfl⟩
 | n + 1, h => Nat.dvd_add (sm_dvd f n fun k hk => h k (by omega)) (h n (by omega))
theorem Pr.ch_dvd {p k : Nat} (hp : Pr p) (h0 : 0 < k) (h1 : k < p) : p ∣ ch p k := by
 obtain ⟨q, rfl⟩ : ∃ q, p = q + 1 := ⟨p - 1, by omega⟩
 obtain ⟨j, rfl⟩ : ∃ j, k = j + 1 := ⟨k - 1, by omega⟩
 have h := ch_mul q j
 have hd : (q + 1) ∣ (j + 1) * ch (q + 1) (j + 1) := ⟨ch q j, h⟩
 rcases hp.euclid hd with h' | h'
 ·
  have := Nat.le_of_dvd (by omega) h'; omega
 ·
  exact h'
theorem Pr.fermat {p : Nat} (hp : Pr p) : ∀ a, a ^ p % p = a % p
 | 0 => by rw [Nat.zero_pow (by have := hp.1; omega)]
 | a + 1 => by
  have ih := Pr.fermat hp a
  rw [binom a p, sm_head]
  obtain ⟨q, hq⟩ : ∃ q, p = q + 1 := ⟨p - 1, by have := hp.1; omega⟩
  have h0 : ch p 0 * a ^ 0 = 1 := by rw [hq]; simp [ch]
  have e : sm (fun k => ch p (k + 1) * a ^ (k + 1)) p = sm (fun k => ch p (k + 1) * a ^ (k + 1)) q + a ^ p := by
   rw [hq]; simp only [sm]; rw [ch_self, Nat.one_mul]
  rw [h0, e]
  have hd : p ∣ sm (fun k => ch p (k + 1) * a ^ (k + 1)) q :=
   sm_dvd _ q fun k hk => Nat.dvd_trans (hp.ch_dvd (by omega) (by omega)) (Nat.dvd_mul_right _ _)
  obtain ⟨c, hc⟩ := hd
  rw [hc]
  rw [show 1 + (p * c + a ^ p) = (1 + a ^ p) + p * c by omega, Nat.add_mul_mod_self_left, Nat.add_mod, ih, ← Nat.add_mod, Nat.add_comm]
theorem dvd_sub_of_mod {p a b : Nat} (hle : a ≤ b) (h : a % p = b % p) : p ∣ b - a := by
 refine ⟨b / p - a / p, ?_⟩
 have h1 := Nat.div_add_mod a p
 have h2 := Nat.div_add_mod b p
 rw [Nat.mul_sub]
 omega
theorem Pr.fermat1 {p a : Nat} (hp : Pr p) (ha : ¬ p ∣ a) : a ^ (p - 1) % p = 1 := by
 have h := hp.fermat a
 obtain ⟨q, hq⟩ : ∃ q, p = q + 1 := ⟨p - 1, by have := hp.1; omega⟩
 have ha0 : 1 ≤ a ^ q := Nat.one_le_iff_ne_zero.mpr (by
  intro h0
  have : a = 0 := by
   rcases Nat.eq_zero_or_pos a with h1 | h1
   ·
    exact h1
   ·
    have := Nat.pow_pos (n := q) h1; omega
  exact ha (this ▸ ⟨0, rfl⟩))
 have hd : p ∣ a * (a ^ q - 1) := by
  have e : a * (a ^ q - 1) = a ^ p - a := by rw [hq, Nat.pow_succ, Nat.mul_sub, Nat.mul_one, Nat.mul_comm]
  rw [e]
  have hle : a ≤ a ^ p := by rw [hq, Nat.pow_succ]; exact Nat.le_mul_of_pos_left a ha0
  exact dvd_sub_of_mod hle h.symm
 rcases hp.euclid hd with h' | h'
 ·
  exact absurd h' ha
 ·
  rw [show p - 1 = q by omega]
  obtain ⟨c, hc⟩ := h'
  have h1 : (1 : Nat) % p = 1 := Nat.mod_eq_of_lt (by have := hp.1; omega)
  have e : a ^ q = 1 + p * c := by omega
  rw [e, Nat.add_mul_mod_self_left, h1]
theorem pow_emod (p x : Int) (n : Nat) : (x % p) ^ n % p = x ^ n % p := by
 induction n with
 | zero => simp
 | succ n ih => rw [Int.pow_succ, Int.pow_succ, Int.mul_emod, ih, Int.emod_emod_of_dvd _ (Int.dvd_refl p), ← Int.mul_emod]
theorem pw_step {p : Int} (out x : Int) (n : Nat) : out * (x * x % p) ^ n % p = out * x ^ (2 * n) % p := by
 rw [Int.mul_emod, pow_emod, ← Int.mul_emod, Int.pow_mul, show x ^ 2 = x * x by rw [Int.pow_succ, Int.pow_succ, Int.pow_zero, Int.one_mul]]
theorem pow_loop (l : Nat → Int → Int → Int → Int → Option Int) (fin : Int → Int → Option Int) (m : Int → Int) (p : Int) (hp : 2 ≤ p) (hp2 : p ≤ 1000000) (hm : ∀ y, 0 ≤ y → m y = y % p)
  (hl : ∀ k e out x, l (k + 1) p e out x = if e > 0 then (if Int.tmod e 2 = 1 then l k p (wrap64 (Int.tdiv e 2)) (m (wrap64 (out * x))) (m (wrap64 (x * x))) else l k p (wrap64 (Int.tdiv e 2)) out (m (wrap64 (x * x)))) else fin p out)
  (d : Nat) : ∀ (k : Nat) (e out x : Int), e < d → d < k → 0 ≤ e → e ≤ 1000000000 → 0 ≤ out → out < p → 0 ≤ x → x < p → l k p e out x = fin p (out * x ^ e.toNat % p) := by
 induction d with
 | zero => intro k e out x h; omega
 | succ d ih =>
  intro k e out x he hk h0 h9 o0 o1 x0 x1
  obtain ⟨k, rfl⟩ : ∃ m, k = m + 1 := ⟨k - 1, by omega⟩
  rw [hl]
  by_cases h : e > 0
  ·
   rw [if_pos h]
   have hb1 := mul_bd (a := 1000000) (b := 1000000) o0 (by omega) x0 (by omega)
   have hb2 := mul_bd (a := 1000000) (b := 1000000) x0 (by omega) x0 (by omega)
   have e1 : Int.tdiv e 2 = e / 2 := Int.tdiv_eq_ediv_of_nonneg h0
   have e2 : Int.tmod e 2 = e % 2 := tmod_nn h0
   have ew : wrap64 (e / 2) = e / 2 := w64 (by omega) (by omega)
   rw [e1, e2, ew, w64 (x := out * x) (by omega) (by omega), w64 (x := x * x) (by omega) (by omega), hm _ hb1.1, hm _ hb2.1]
   have b2 := emod_bd (x := x * x) (p := p) (by omega)
   have b1 := emod_bd (x := out * x) (p := p) (by omega)
   by_cases h1 : e % 2 = 1
   ·
    rw [if_pos h1, ih k (e / 2) (out * x % p) (x * x % p) (by omega) (by omega) (by omega) (by omega) b1.1 b1.2 b2.1 b2.2, pw_step]
    have hn : e.toNat = 2 * (e / 2).toNat + 1 := by omega
    rw [hn, Int.pow_succ, em_l]
    have : out * x * x ^ (2 * (e / 2).toNat) = out * (x ^ (2 * (e / 2).toNat) * x) := by
     rw [Int.mul_assoc, Int.mul_comm x]
    rw [this]
   ·
    rw [if_neg h1, ih k (e / 2) out (x * x % p) (by omega) (by omega) (by omega) (by omega) o0 o1 b2.1 b2.2, pw_step]
    have hn : e.toNat = 2 * (e / 2).toNat := by omega
    rw [hn]
  ·
   rw [if_neg h]
   have hz : e.toNat = 0 := by omega
   rw [hz, Int.pow_zero, Int.mul_one, Int.emod_eq_of_lt o0 o1]
def IsP (p : Int) : Prop := 2 ≤ p ∧ p ≤ 10007 ∧ Pr p.toNat
open Classical in
noncomputable def primeB (p : Int) : Bool := decide (IsP p)
theorem primeB_iff {p : Int} : primeB p = true ↔ IsP p := by
 unfold primeB; exact @decide_eq_true_iff _ (Classical.propDecidable _)
theorem prime_loop (l : Nat → Int → Int → Option Bool) (p : Int) (hp : 2 ≤ p) (hp2 : p ≤ 10007)
  (hl : ∀ k i, l (k + 1) p i = if wrap64 (i * i) ≤ p then (if i = 0 then none else (if Int.tmod p i = 0 then some false else l k p (wrap64 (i + 1)))) else some true)
  (d : Nat) : ∀ (k : Nat) (i : Int), 2 ≤ i → i ≤ 101 → 101 - i < d → d < k →
   ∃ b, l k p i = some b ∧ (b = true ↔ ∀ j : Int, i ≤ j → j * j ≤ p → p % j ≠ 0) := by
 induction d with
 | zero => intro k i h1 h2 h3; omega
 | succ d ih =>
  intro k i h1 h2 h3 hk
  obtain ⟨k, rfl⟩ : ∃ m, k = m + 1 := ⟨k - 1, by omega⟩
  rw [hl]
  have hb := mul_bd (a := 101) (b := 101) (x := i) (y := i) (by omega) h2 (by omega) h2
  rw [w64 (by omega) (by omega), w64 (x := i + 1) (by omega) (by omega)]
  by_cases hle : i * i ≤ p
  ·
   have hi : i ≤ 100 := by
    rcases Int.lt_or_le 100 i with h | h
    ·
     have := Int.mul_le_mul (a := 101) (b := 101) (c := i) (d := i) (by omega) (by omega) (by omega) (by omega); omega
    ·
     exact h
   rw [if_pos hle, if_neg (by omega), tmod_nn (by omega)]
   by_cases hd : p % i = 0
   ·
    rw [if_pos hd]
    exact ⟨false, rfl, by simp; exact ⟨i, Int.le_refl _, hle, hd⟩⟩
   ·
    rw [if_neg hd]
    obtain ⟨b, hb1, hb2⟩ := ih k (i + 1) (by omega) (by omega) (by omega) (by omega)
    refine ⟨b, hb1, hb2.trans ⟨fun h j hj hjj => ?_, fun h j hj hjj => h j (by omega) hjj⟩⟩
    by_cases e : j = i
    ·
     subst e; exact hd
    ·
     exact h j (by omega) hjj
  ·
   rw [if_neg hle]
   refine ⟨true, rfl, by simp; intro j hj hjj; exfalso; apply hle; exact Int.le_trans (Int.mul_le_mul hj hj (by omega) (by omega)) hjj⟩
theorem trial_iff {p : Int} (hp : 2 ≤ p) : (∀ j : Int, 2 ≤ j → j * j ≤ p → p % j ≠ 0) ↔ Pr p.toNat := by
 constructor
 ·
  intro h
  refine Pr.of_trial (by omega) fun d hd hdd h0 => ?_
  refine h d (by omega) ?_ ?_
  ·
   have : ((d * d : Nat) : Int) ≤ p := by omega
   simpa using this
  ·
   have : ((p.toNat % d : Nat) : Int) = 0 := by rw [h0]; rfl
   rw [Int.natCast_emod, Int.toNat_of_nonneg (by omega)] at this
   exact this
 ·
  intro h j hj hjj h0
  obtain ⟨d, rfl⟩ : ∃ d : Nat, j = d := ⟨j.toNat, by omega⟩
  obtain ⟨n, rfl⟩ : ∃ n : Nat, p = n := ⟨p.toNat, by omega⟩
  simp only [Int.toNat_natCast] at h
  have hdv : d ∣ n := by
   apply Nat.dvd_of_mod_eq_zero
   have : ((n % d : Nat) : Int) = 0 := by rw [Int.natCast_emod]; exact h0
   omega
  have hn : d * d ≤ n := by
   have : ((d * d : Nat) : Int) ≤ n := by simpa using hjj
   omega
  rcases h.2 d hdv with e | e
  ·
   omega
  ·
   subst e
   have : d * 2 ≤ d * d := Nat.mul_le_mul_left d (by omega)
   omega
theorem primeB_loop {p : Int} {b : Bool} (h1 : 2 ≤ p) (h2 : p ≤ 10007) (h : b = true ↔ ∀ j : Int, 2 ≤ j → j * j ≤ p → p % j ≠ 0) : b = primeB p := by
 rw [Bool.eq_iff_iff, primeB_iff, h, trial_iff h1]
 exact ⟨fun h => ⟨h1, h2, h⟩, fun h => h.2.2⟩
theorem primeB_lo {p : Int} (h : ¬ 2 ≤ p) : primeB p = false := by
 rw [Bool.eq_false_iff]; intro e; exact h (primeB_iff.1 e).1
theorem primeB_hi {p : Int} (h : ¬ p ≤ 10007) : primeB p = false := by
 rw [Bool.eq_false_iff]; intro e; exact h (primeB_iff.1 e).2.1
end Go.Proofs.Ytlmolloallhclaa.Num
set_option linter.unusedVariables false
set_option linter.unusedSimpArgs false
namespace Go.Proofs.Ytlmolloallhclaa.Num
def su (f : Nat → Int) : Nat → Int
 | 0 => 0
 | n + 1 => su f n + f n
theorem su_congr {f g : Nat → Int} : ∀ {n : Nat}, (∀ i, i < n → f i = g i) → su f n = su g n
 | 0, _ => rfl
 | n + 1, h => by rw [su, su, su_congr (n := n) (fun i hi => h i (by omega)), h n (by omega)]
theorem su_zero {f : Nat → Int} : ∀ {n : Nat}, (∀ i, i < n → f i = 0) → su f n = 0
 | 0, _ => rfl
 | n + 1, h => by rw [su, su_zero (n := n) (fun i hi => h i (by omega)), h n (by omega)]; rfl
theorem su_add (f g : Nat → Int) : ∀ n, su (fun i => f i + g i) n = su f n + su g n
 | 0 => rfl
 | n + 1 => by simp only [su, su_add f g n]; omega
theorem su_mul (c : Int) (f : Nat → Int) : ∀ n, su (fun i => c * f i) n = c * su f n
 | 0 => by simp [su]
 | n + 1 => by simp only [su, su_mul c f n, Int.mul_add]
theorem su_mulr (c : Int) (f : Nat → Int) (n : Nat) : su (fun i => f i * c) n = su f n * c := by
 rw [Int.mul_comm, ← su_mul]; exact su_congr fun i _ => Int.mul_comm _ _
theorem su_split (f : Nat → Int) (m : Nat) : ∀ n, su f (m + n) = su f m + su (fun i => f (m + i)) n
 | 0 => by simp [su]
 | n + 1 => by rw [← Nat.add_assoc, su, su_split f m n, su]; omega
theorem su_head (f : Nat → Int) (n : Nat) : su f (n + 1) = f 0 + su (fun i => f (i + 1)) n := by
 rw [Nat.add_comm n 1, su_split f 1 n]
 simp only [su]
 rw [Int.zero_add, su_congr (g := fun i => f (i + 1)) (fun i _ => by rw [Nat.add_comm])]
theorem su_ext {f : Nat → Int} {m n : Nat} (h : m ≤ n) (hz : ∀ i, m ≤ i → i < n → f i = 0) : su f n = su f m := by
 obtain ⟨d, rfl⟩ : ∃ d, n = m + d := ⟨n - m, by omega⟩
 rw [su_split, su_zero (n := d) (fun i hi => hz _ (by omega) (by omega))]; omega
theorem su_rev (f : Nat → Int) : ∀ n, su (fun i => f (n - 1 - i)) n = su f n
 | 0 => rfl
 | n + 1 => by
  rw [su_head, su, Int.add_comm]
  congr 1
  rw [← su_rev f n]
  exact su_congr fun i hi => by congr 1; omega
theorem su_swap (f : Nat → Nat → Int) : ∀ m n, su (fun i => su (fun j => f i j) n) m = su (fun j => su (fun i => f i j) m) n
 | 0, n => by rw [su]; exact (su_zero fun _ _ => rfl).symm
 | m + 1, n => by
  rw [su, su_swap f m n, ← su_add]
  exact su_congr fun j _ => by rw [su]
theorem su_tri (f : Nat → Nat → Int) : ∀ n, su (fun i => su (fun j => f i j) (i + 1)) n = su (fun j => su (fun i => f (j + i) j) (n - j)) n
 | 0 => rfl
 | n + 1 => by
  rw [su, su_tri f n]
  have h : ∀ j, j < n → su (fun i => f (j + i) j) (n + 1 - j) = su (fun i => f (j + i) j) (n - j) + f n j := fun j hj => by
   rw [show n + 1 - j = (n - j) + 1 by omega, su, show j + (n - j) = n by omega]
  have h3 : su (fun j => su (fun i => f (j + i) j) (n + 1 - j)) n = su (fun j => su (fun i => f (j + i) j) (n - j)) n + su (fun j => f n j) n := by rw [su_congr (n := n) h, su_add]
  have h2 : su (fun i => f (n + i) n) (n + 1 - n) = f n n := by rw [show n + 1 - n = 1 by omega]; simp [su]
  rw [su, su, h2, h3]
  omega
def cv (F G : Nat → Int) (n : Nat) : Int := su (fun i => F i * G (n - i)) (n + 1)
theorem cv_comm (F G : Nat → Int) (n : Nat) : cv F G n = cv G F n := by
 unfold cv
 rw [← su_rev]
 exact su_congr fun i hi => by
  rw [show n + 1 - 1 - i = n - i by omega, show n - (n - i) = i by omega, Int.mul_comm]
theorem cv_addl (F G H : Nat → Int) (n : Nat) : cv (fun i => F i + G i) H n = cv F H n + cv G H n := by
 unfold cv; rw [← su_add]; exact su_congr fun i _ => Int.add_mul _ _ _
theorem cv_addr (F G H : Nat → Int) (n : Nat) : cv F (fun i => G i + H i) n = cv F G n + cv F H n := by
 rw [cv_comm, cv_addl, cv_comm G, cv_comm H]
theorem cv_assoc (F G H : Nat → Int) (n : Nat) : cv (cv F G) H n = cv F (cv G H) n := by
 unfold cv
 have h1 : su (fun i => su (fun j => F j * G (i - j)) (i + 1) * H (n - i)) (n + 1) = su (fun i => su (fun j => F j * G (i - j) * H (n - i)) (i + 1)) (n + 1) :=
  su_congr fun i _ => (su_mulr _ _ _).symm
 rw [h1, su_tri (fun i j => F j * G (i - j) * H (n - i))]
 refine su_congr fun j hj => ?_
 rw [← su_mul, show n + 1 - j = n - j + 1 by omega]
 exact su_congr fun i _ => by rw [show j + i - j = i by omega, show n - (j + i) = n - j - i by omega, Int.mul_assoc]
theorem cv_one (F : Nat → Int) (c : Int) (n : Nat) : cv (fun i => if i = 0 then c else 0) F n = c * F n := by
 unfold cv
 rw [su_head, su_zero fun i _ => by simp]
 simp
def cg (p a b : Int) : Prop := p ∣ a - b
theorem cg.refl {p : Int} (a : Int) : cg p a a := ⟨0, by omega⟩
theorem cg.of_eq {p a b : Int} (h : a = b) : cg p a b := h ▸ cg.refl a
theorem cg.symm {p a b : Int} : cg p a b → cg p b a := fun ⟨k, h⟩ => ⟨-k, by rw [Int.mul_neg, ← h]; omega⟩
theorem cg.trans {p a b c : Int} : cg p a b → cg p b c → cg p a c := fun ⟨k, h⟩ ⟨m, h'⟩ => ⟨k + m, by rw [Int.mul_add, ← h, ← h']; omega⟩
theorem cg.add {p a b c d : Int} : cg p a b → cg p c d → cg p (a + c) (b + d) := fun ⟨k, h⟩ ⟨m, h'⟩ => ⟨k + m, by rw [Int.mul_add, ← h, ← h']; omega⟩
theorem cg.neg {p a b : Int} : cg p a b → cg p (-a) (-b) := fun ⟨k, h⟩ => ⟨-k, by rw [Int.mul_neg, ← h]; omega⟩
theorem cg.sub {p a b c d : Int} (h : cg p a b) (h' : cg p c d) : cg p (a - c) (b - d) := by
 rw [Int.sub_eq_add_neg, Int.sub_eq_add_neg]; exact h.add h'.neg
theorem cg.mul {p a b c d : Int} : cg p a b → cg p c d → cg p (a * c) (b * d) := fun ⟨k, h⟩ ⟨m, h'⟩ => ⟨k * c + b * m, by
 have e1 : a = b + p * k := by omega
 have e2 : c = d + p * m := by omega
 rw [e1, e2]; grind⟩
theorem cg.mod (p a : Int) : cg p (a % p) a := ⟨-(a / p), by have := Int.mul_ediv_add_emod a p; rw [Int.mul_neg]; omega⟩
theorem cg.emod {p a b : Int} (h : cg p a b) : a % p = b % p := by
 obtain ⟨k, h⟩ := h
 rw [show a = b + p * k by omega, Int.add_mul_emod_self_left]
theorem cg.of_emod {p a b : Int} (h : a % p = b % p) : cg p a b := (cg.mod p a).symm.trans (h ▸ cg.mod p b)
theorem cg.eq {p a b : Int} (h : cg p a b) (ha : 0 ≤ a ∧ a < p) (hb : 0 ≤ b ∧ b < p) : a = b := by
 have := h.emod; rwa [Int.emod_eq_of_lt ha.1 ha.2, Int.emod_eq_of_lt hb.1 hb.2] at this
theorem cg.zero {p a : Int} : cg p a 0 ↔ a % p = 0 := ⟨fun h => by have := h.emod; simpa using this, fun h => cg.of_emod (by simpa using h)⟩
theorem cg.su {p : Int} {f g : Nat → Int} : ∀ {n : Nat}, (∀ i, i < n → cg p (f i) (g i)) → cg p (su f n) (su g n)
 | 0, _ => cg.refl _
 | n + 1, h => (cg.su (n := n) fun i hi => h i (by omega)).add (h n (by omega))
theorem cg.cv {p : Int} {F F' G G' : Nat → Int} (hF : ∀ i, cg p (F i) (F' i)) (hG : ∀ i, cg p (G i) (G' i)) (n : Nat) : cg p (cv F G n) (cv F' G' n) := cg.su fun i _ => (hF i).mul (hG _)
theorem cg.pow {p a b : Int} (h : cg p a b) : ∀ n : Nat, cg p (a ^ n) (b ^ n)
 | 0 => by rw [Int.pow_zero, Int.pow_zero]; exact cg.refl 1
 | n + 1 => by rw [Int.pow_succ, Int.pow_succ]; exact (cg.pow h n).mul h
theorem inv_cg {p x : Int} (hp : IsP p) (hx : x % p ≠ 0) : cg p (x * (x ^ (p - 2).toNat % p)) 1 := by
 have h2 := hp.1
 obtain ⟨n, hn⟩ : ∃ n : Nat, p = n := ⟨p.toNat, by omega⟩
 subst hn
 have hpr : Pr n := by simpa using hp.2.2
 obtain ⟨a, ha⟩ : ∃ a : Nat, x % (n : Int) = a := ⟨(x % (n : Int)).toNat, by have := emod_bd (x := x) (p := n) (by omega); omega⟩
 have hb := emod_bd (x := x) (p := (n : Int)) (by omega)
 have hnd : ¬ n ∣ a := fun h => by have := Nat.le_of_dvd (by omega) h; omega
 have hf := hpr.fermat1 hnd
 have h1 : cg n ((a : Int) ^ (n - 1)) 1 := by
  refine cg.of_emod ?_
  have : ((a ^ (n - 1) % n : Nat) : Int) = 1 := by rw [hf]; rfl
  rw [Int.natCast_emod, Int.natCast_pow] at this
  rw [this, Int.emod_eq_of_lt (by omega) (by omega)]
 have hxa : cg n x a := ha ▸ (cg.mod n x).symm
 refine ((cg.refl x).mul (cg.mod _ _)).trans ?_
 have e : x * x ^ ((n : Int) - 2).toNat = x ^ (n - 1) := by
  rw [Int.mul_comm, ← Int.pow_succ]; congr 1; omega
 rw [e]
 exact (hxa.pow _).trans h1
end Go.Proofs.Ytlmolloallhclaa.Num
set_option linter.unusedVariables false
set_option linter.unusedSimpArgs false
namespace Go.Proofs.Ytlmolloallhclaa.H
open Go.RowKit Go.Proofs.Ytlmolloallhclaa.Num
structure Rin (α : Type) where
 ad : α → α → α
 ml : α → α → α
 ng : α → α
 z : α
 o : α
 ad_c : ∀ a b, ad a b = ad b a
 ad_a : ∀ a b c, ad (ad a b) c = ad a (ad b c)
 ad_z : ∀ a, ad a z = a
 ad_n : ∀ a, ad a (ng a) = z
 ml_c : ∀ a b, ml a b = ml b a
 ml_a : ∀ a b c, ml (ml a b) c = ml a (ml b c)
 ml_o : ∀ a, ml a o = a
 ml_d : ∀ a b c, ml a (ad b c) = ad (ml a b) (ml a c)
theorem Rin.z_ad {α : Type} (R : Rin α) (a : α) : R.ad R.z a = a := by rw [R.ad_c, R.ad_z]
theorem Rin.n_ad {α : Type} (R : Rin α) (a : α) : R.ad (R.ng a) a = R.z := by rw [R.ad_c, R.ad_n]
theorem Rin.cancel {α : Type} (R : Rin α) {a b c : α} (h : R.ad a b = R.ad a c) : b = c := by
 have := congrArg (R.ad (R.ng a)) h
 rwa [← R.ad_a, ← R.ad_a, R.n_ad, R.z_ad, R.z_ad] at this
theorem Rin.ng_of {α : Type} (R : Rin α) {a b : α} (h : R.ad a b = R.z) : b = R.ng a := R.cancel (h.trans (R.ad_n a).symm)
theorem Rin.ml_z {α : Type} (R : Rin α) (a : α) : R.ml a R.z = R.z := by
 have h : R.ad (R.ml a R.z) (R.ml a R.z) = R.ad (R.ml a R.z) R.z := by rw [← R.ml_d, R.ad_z, R.ad_z]
 exact R.cancel h
theorem Rin.z_ml {α : Type} (R : Rin α) (a : α) : R.ml R.z a = R.z := by rw [R.ml_c, R.ml_z]
theorem Rin.ng_z {α : Type} (R : Rin α) : R.ng R.z = R.z := (R.ng_of (R.ad_z R.z)).symm
theorem Rin.ng_ng {α : Type} (R : Rin α) (a : α) : R.ng (R.ng a) = a := (R.ng_of (R.n_ad a)).symm
theorem Rin.ml_ng {α : Type} (R : Rin α) (a b : α) : R.ml a (R.ng b) = R.ng (R.ml a b) := R.ng_of (by rw [← R.ml_d, R.ad_n, R.ml_z])
theorem Rin.ad4 {α : Type} (R : Rin α) (a b c d : α) : R.ad (R.ad a b) (R.ad c d) = R.ad (R.ad a c) (R.ad b d) := by
 rw [R.ad_a, R.ad_a, ← R.ad_a b c d, R.ad_c b c, R.ad_a c b d]
theorem Rin.ng_ad {α : Type} (R : Rin α) (a b : α) : R.ng (R.ad a b) = R.ad (R.ng a) (R.ng b) := (R.ng_of (by rw [R.ad4, R.ad_n, R.ad_n, R.ad_z])).symm
theorem Rin.d_ml {α : Type} (R : Rin α) (a b c : α) : R.ml (R.ad a b) c = R.ad (R.ml a c) (R.ml b c) := by rw [R.ml_c, R.ml_d, R.ml_c c a, R.ml_c c b]
def Rin.sg {α : Type} (R : Rin α) : Nat → α → α
 | 0, a => a
 | n + 1, a => R.ng (R.sg n a)
theorem Rin.sg_z {α : Type} (R : Rin α) : ∀ n, R.sg n R.z = R.z
 | 0 => rfl
 | n + 1 => by rw [sg, R.sg_z n, R.ng_z]
theorem Rin.sg_ad {α : Type} (R : Rin α) : ∀ n a b, R.sg n (R.ad a b) = R.ad (R.sg n a) (R.sg n b)
 | 0, _, _ => rfl
 | n + 1, a, b => by rw [sg, R.sg_ad n, R.ng_ad]; rfl
theorem Rin.sg_ml {α : Type} (R : Rin α) : ∀ n a b, R.sg n (R.ml a b) = R.ml a (R.sg n b)
 | 0, _, _ => rfl
 | n + 1, a, b => by rw [sg, R.sg_ml n, ← R.ml_ng]; rfl
theorem Rin.sg_sg {α : Type} (R : Rin α) (a : α) : ∀ n m, R.sg n (R.sg m a) = R.sg (n + m) a
 | 0, m => by rw [Nat.zero_add]; rfl
 | n + 1, m => by rw [sg, R.sg_sg a n m, show n + 1 + m = (n + m) + 1 by omega]; rfl
theorem Rin.sg_two {α : Type} (R : Rin α) (a : α) : ∀ n, R.sg (2 * n) a = a
 | 0 => rfl
 | n + 1 => by rw [show 2 * (n + 1) = 2 * n + 1 + 1 by omega, sg, sg, R.sg_two a n, R.ng_ng]
def Rin.sm {α : Type} (R : Rin α) (f : Nat → α) : Nat → α
 | 0 => R.z
 | n + 1 => R.ad (R.sm f n) (f n)
theorem Rin.sm_congr {α : Type} (R : Rin α) {f g : Nat → α} : ∀ {n : Nat}, (∀ i, i < n → f i = g i) → R.sm f n = R.sm g n
 | 0, _ => rfl
 | n + 1, h => by rw [sm, sm, R.sm_congr fun i hi => h i (by omega), h n (by omega)]
theorem Rin.sm_zero {α : Type} (R : Rin α) {f : Nat → α} : ∀ {n : Nat}, (∀ i, i < n → f i = R.z) → R.sm f n = R.z
 | 0, _ => rfl
 | n + 1, h => by rw [sm, R.sm_zero fun i hi => h i (by omega), h n (by omega), R.ad_z]
theorem Rin.sm_add {α : Type} (R : Rin α) (f g : Nat → α) : ∀ n, R.sm (fun i => R.ad (f i) (g i)) n = R.ad (R.sm f n) (R.sm g n)
 | 0 => by rw [sm, sm, sm, R.ad_z]
 | n + 1 => by rw [sm, sm, sm, R.sm_add f g n, R.ad4]
theorem Rin.sm_ml {α : Type} (R : Rin α) (c : α) (f : Nat → α) : ∀ n, R.sm (fun i => R.ml c (f i)) n = R.ml c (R.sm f n)
 | 0 => by rw [sm, sm, R.ml_z]
 | n + 1 => by rw [sm, sm, R.sm_ml c f n, R.ml_d]
theorem Rin.sm_head {α : Type} (R : Rin α) (f : Nat → α) : ∀ n, R.sm f (n + 1) = R.ad (f 0) (R.sm (fun i => f (i + 1)) n)
 | 0 => by rw [sm, sm, sm, R.ad_c]
 | n + 1 => by rw [sm, R.sm_head f n, sm, R.ad_a]
theorem Rin.sm_one {α : Type} (R : Rin α) {f : Nat → α} {r : Nat} : ∀ {n : Nat}, r < n → (∀ i, i < n → i ≠ r → f i = R.z) → R.sm f n = f r
 | 0, h, _ => by omega
 | n + 1, h, hz => by
  rw [sm]
  by_cases e : n = r
  ·
   subst e
   rw [sm_zero R fun i hi => hz i (by omega) (by omega), R.z_ad]
  ·
   rw [R.sm_one (by omega) fun i hi hne => hz i (by omega) hne, hz n (by omega) e, R.ad_z]
theorem Rin.sm_two {α : Type} (R : Rin α) {f : Nat → α} {r : Nat} : ∀ {n : Nat}, r + 1 < n → (∀ i, i < n → i ≠ r → i ≠ r + 1 → f i = R.z) → R.sm f n = R.ad (f r) (f (r + 1))
 | 0, h, _ => by omega
 | n + 1, h, hz => by
  rw [sm]
  by_cases e : n = r + 1
  ·
   subst e
   rw [sm_one R (r := r) (by omega) fun i hi hne => hz i (by omega) hne (by omega)]
  ·
   rw [R.sm_two (by omega) fun i hi h1 h2 => hz i (by omega) h1 h2, hz n (by omega) (by omega) e, R.ad_z]
def Rin.sk (i a : Nat) : Nat := if a < i then a else a + 1
theorem Rin.sk_lt {i a n : Nat} (h : a < n) : sk i a < n + 1 := by unfold sk; split <;> omega
theorem Rin.sk_ne (i a : Nat) : sk i a ≠ i := by unfold sk; split <;> omega
def Rin.dt {α : Type} (R : Rin α) : Nat → (Nat → Nat → α) → α
 | 0, _ => R.o
 | n + 1, M => R.sm (fun i => R.sg i (R.ml (M i 0) (R.dt n fun a b => M (sk i a) (b + 1)))) (n + 1)
theorem Rin.dt_congr {α : Type} (R : Rin α) : ∀ {n : Nat} {M M' : Nat → Nat → α}, (∀ i j, i < n → j < n → M i j = M' i j) → R.dt n M = R.dt n M'
 | 0, _, _, _ => rfl
 | n + 1, M, M', h => by
  rw [dt, dt]
  refine R.sm_congr fun i hi => ?_
  rw [h i 0 hi (by omega), R.dt_congr (n := n) fun a b ha hb => h _ _ (sk_lt ha) (by omega)]
def Rin.up {α : Type} (M : Nat → Nat → α) (r : Nat) (v : Nat → α) : Nat → Nat → α := fun i j => if i = r then v j else M i j
theorem Rin.up_self {α : Type} (M : Nat → Nat → α) (r : Nat) : up M r (M r) = M := by
 funext i j; unfold up; split
 ·
  subst_vars; rfl
 ·
  rfl
theorem Rin.up_up {α : Type} (M : Nat → Nat → α) (r : Nat) (u v : Nat → α) : up (up M r u) r v = up M r v := by
 funext i j; unfold up; split <;> rfl
theorem Rin.up_comm {α : Type} (M : Nat → Nat → α) {r s : Nat} (h : r ≠ s) (u v : Nat → α) : up (up M r u) s v = up (up M s v) r u := by
 funext i j; unfold up
 by_cases h1 : i = r
 ·
  subst h1; rw [if_neg h, if_pos rfl, if_pos rfl]
 ·
  rw [if_neg h1, if_neg h1]
theorem Rin.minor_up {α : Type} (M : Nat → Nat → α) {r i : Nat} (h : i ≠ r) (v : Nat → α) : (fun a b => up M r v (sk i a) (b + 1)) = up (fun a b => M (sk i a) (b + 1)) (if r < i then r else r - 1) fun b => v (b + 1) := by
 funext a b
 unfold up sk
 by_cases h1 : a < i
 ·
  rw [if_pos h1]
  by_cases h2 : a = r
  ·
   subst h2; rw [if_pos rfl, if_pos h1, if_pos rfl]
  ·
   rw [if_neg h2, if_neg (by split <;> omega)]; show _ = M (if a < i then a else a + 1) (b + 1); rw [if_pos h1]
 ·
  rw [if_neg h1]
  by_cases h2 : a + 1 = r
  ·
   rw [if_pos h2, if_pos]; rw [if_neg (by omega)]; omega
  ·
   rw [if_neg h2, if_neg (by split <;> omega)]; show _ = M (if a < i then a else a + 1) (b + 1); rw [if_neg h1]
theorem Rin.minor_same {α : Type} (M : Nat → Nat → α) (r : Nat) (v : Nat → α) : (fun a b => up M r v (sk r a) (b + 1)) = fun a b => M (sk r a) (b + 1) := by
 funext a b; unfold up; rw [if_neg (sk_ne r a)]
theorem Rin.dt_row {α : Type} (R : Rin α) : ∀ (n r : Nat) (M : Nat → Nat → α) (u v : Nat → α), R.dt n (up M r fun j => R.ad (u j) (v j)) = R.ad (R.dt n (up M r u)) (R.dt n (up M r v)) ∨ n ≤ r
 | 0, r, _, _, _ => .inr (Nat.zero_le _)
 | n + 1, r, M, u, v => by
  by_cases hr : r < n + 1
  ·
   left
   rw [dt, dt, dt, ← R.sm_add]
   refine R.sm_congr fun i hi => ?_
   rw [← R.sg_ad]
   congr 1
   by_cases h : i = r
   ·
    subst h
    rw [minor_same, minor_same, minor_same, show up M i (fun j => R.ad (u j) (v j)) i 0 = R.ad (u 0) (v 0) from if_pos rfl, show up M i u i 0 = u 0 from if_pos rfl, show up M i v i 0 = v 0 from if_pos rfl, R.d_ml]
   ·
    rw [minor_up M h, minor_up M h, minor_up M h, show up M r (fun j => R.ad (u j) (v j)) i 0 = M i 0 from if_neg h, show up M r u i 0 = M i 0 from if_neg h, show up M r v i 0 = M i 0 from if_neg h, ← R.ml_d]
    rcases R.dt_row n (if r < i then r else r - 1) (fun a b => M (sk i a) (b + 1)) (fun b => u (b + 1)) (fun b => v (b + 1)) with h1 | h1
    ·
     rw [h1]
    ·
     exfalso; revert h1; split <;> omega
  ·
   right; omega
theorem Rin.dt_scale {α : Type} (R : Rin α) : ∀ (n r : Nat) (M : Nat → Nat → α) (c : α) (u : Nat → α), R.dt n (up M r fun j => R.ml c (u j)) = R.ml c (R.dt n (up M r u)) ∨ n ≤ r
 | 0, r, _, _, _ => .inr (Nat.zero_le _)
 | n + 1, r, M, c, u => by
  by_cases hr : r < n + 1
  ·
   left
   rw [dt, dt, ← R.sm_ml]
   refine R.sm_congr fun i hi => ?_
   rw [← R.sg_ml]
   congr 1
   by_cases h : i = r
   ·
    subst h
    rw [minor_same, minor_same, show up M i (fun j => R.ml c (u j)) i 0 = R.ml c (u 0) from if_pos rfl, show up M i u i 0 = u 0 from if_pos rfl, R.ml_a]
   ·
    rw [minor_up M h, minor_up M h, show up M r (fun j => R.ml c (u j)) i 0 = M i 0 from if_neg h, show up M r u i 0 = M i 0 from if_neg h]
    rcases R.dt_scale n (if r < i then r else r - 1) (fun a b => M (sk i a) (b + 1)) c (fun b => u (b + 1)) with h1 | h1
    ·
     rw [h1, ← R.ml_a, ← R.ml_a, R.ml_c (M i 0) c]
    ·
     exfalso; revert h1; split <;> omega
  ·
   right; omega
theorem Rin.dt_ad {α : Type} (R : Rin α) {n r : Nat} (hr : r < n) (M : Nat → Nat → α) (u v : Nat → α) : R.dt n (up M r fun j => R.ad (u j) (v j)) = R.ad (R.dt n (up M r u)) (R.dt n (up M r v)) := by
 rcases R.dt_row n r M u v with h | h
 ·
  exact h
 ·
  omega
theorem Rin.dt_ml {α : Type} (R : Rin α) {n r : Nat} (hr : r < n) (M : Nat → Nat → α) (c : α) (u : Nat → α) : R.dt n (up M r fun j => R.ml c (u j)) = R.ml c (R.dt n (up M r u)) := by
 rcases R.dt_scale n r M c u with h | h
 ·
  exact h
 ·
  omega
theorem Rin.dt_adj {α : Type} (R : Rin α) : ∀ {n r : Nat} {M : Nat → Nat → α}, r + 1 < n → (∀ j, j < n → M r j = M (r + 1) j) → R.dt n M = R.z
 | 0, r, _, h, _ => by omega
 | n + 1, r, M, hr, he => by
  rw [dt, R.sm_two (r := r) hr fun i hi h1 h2 => ?_]
  ·
   have e : R.dt n (fun a b => M (sk (r + 1) a) (b + 1)) = R.dt n fun a b => M (sk r a) (b + 1) := R.dt_congr fun a b ha hb => by
    unfold sk
    by_cases h : a < r
    ·
     rw [if_pos h, if_pos (by omega)]
    ·
     by_cases h2 : a = r
     ·
      subst h2; rw [if_pos (by omega), if_neg (by omega)]; exact he _ (by omega)
     ·
      rw [if_neg h, if_neg (by omega)]
   rw [e, ← he 0 (by omega), sg, R.ad_n]
  ·
   rw [R.dt_adj (n := n) (r := if i < r then r - 1 else r) (M := fun a b => M (sk i a) (b + 1)) (by split <;> omega) fun j hj => ?_, R.ml_z, R.sg_z]
   show M (sk i (if i < r then r - 1 else r)) (j + 1) = M (sk i ((if i < r then r - 1 else r) + 1)) (j + 1)
   by_cases h : i < r
   ·
    rw [if_pos h, show sk i (r - 1) = r by unfold sk; rw [if_neg (by omega)]; omega, show sk i (r - 1 + 1) = r + 1 by unfold sk; rw [if_neg (by omega)]; omega]
    exact he _ (by omega)
   ·
    rw [if_neg h, show sk i r = r by unfold sk; rw [if_pos (by omega)], show sk i (r + 1) = r + 1 by unfold sk; rw [if_pos (by omega)]]
    exact he _ (by omega)
theorem Rin.dt_xchg {α : Type} (R : Rin α) {n r s : Nat} (hr : r < n) (hs : s < n) (hne : r ≠ s) (hz : ∀ (M : Nat → Nat → α) (u : Nat → α), R.dt n (up (up M r u) s u) = R.z) (M : Nat → Nat → α) (u v : Nat → α) :
  R.dt n (up (up M r v) s u) = R.ng (R.dt n (up (up M r u) s v)) := by
 have h := hz M fun j => R.ad (u j) (v j)
 rw [R.dt_ad hs, up_comm M hne, up_comm M hne, R.dt_ad hr, R.dt_ad hr, ← up_comm M hne, ← up_comm M hne, ← up_comm M hne, ← up_comm M hne, hz, hz, R.z_ad, R.ad_z] at h
 exact R.ng_of ((R.ad_c _ _).trans h)
theorem Rin.up_two {α : Type} (M : Nat → Nat → α) {r s : Nat} (hne : r ≠ s) : up (up M r (M r)) s (M s) = M := by rw [up_self, up_self]
def Rin.xc {α : Type} (M : Nat → Nat → α) (r s : Nat) : Nat → Nat → α := up (up M r (M s)) s (M r)
theorem Rin.dt_adjswap {α : Type} (R : Rin α) {n r : Nat} (hr : r + 1 < n) (M : Nat → Nat → α) : R.dt n (xc M r (r + 1)) = R.ng (R.dt n M) := by
 have := R.dt_xchg (r := r) (s := r + 1) (n := n) (by omega) hr (by omega) (fun M u => R.dt_adj (r := r) hr fun j _ => by
  unfold up; rw [if_neg (by omega), if_pos rfl, if_pos rfl]) M (M r) (M (r + 1))
 rw [up_two M (by omega)] at this
 exact this
theorem Rin.dt_eq {α : Type} (R : Rin α) : ∀ (d : Nat) {n r : Nat} {M : Nat → Nat → α}, r + d + 1 < n → (∀ j, j < n → M r j = M (r + d + 1) j) → R.dt n M = R.z
 | 0, n, r, M, h, he => R.dt_adj (r := r) h he
 | d + 1, n, r, M, h, he => by
  have h1 := R.dt_adjswap (n := n) (r := r + d + 1) (by omega) M
  have h2 := R.dt_eq d (n := n) (r := r) (M := xc M (r + d + 1) (r + d + 1 + 1)) (by omega) fun j hj => by
   unfold xc up
   rw [if_neg (by omega), if_neg (by omega), if_neg (by omega), if_pos rfl]
   exact he j hj
  rw [h2] at h1
  have := congrArg R.ng h1
  rw [R.ng_z, R.ng_ng] at this
  exact this.symm
theorem Rin.dt_same {α : Type} (R : Rin α) {n r s : Nat} (hr : r < n) (hs : s < n) (hne : r ≠ s) {M : Nat → Nat → α} (he : ∀ j, j < n → M r j = M s j) : R.dt n M = R.z := by
 rcases Nat.lt_or_gt_of_ne hne with h | h
 ·
  refine R.dt_eq (s - r - 1) (r := r) (by omega) fun j hj => ?_
  rw [show r + (s - r - 1) + 1 = s by omega]; exact he j hj
 ·
  refine R.dt_eq (r - s - 1) (r := s) (by omega) fun j hj => ?_
  rw [show s + (r - s - 1) + 1 = r by omega]; exact (he j hj).symm
theorem Rin.dt_swap {α : Type} (R : Rin α) {n r s : Nat} (hr : r < n) (hs : s < n) (hne : r ≠ s) (M : Nat → Nat → α) : R.dt n (xc M r s) = R.ng (R.dt n M) := by
 have := R.dt_xchg hr hs hne (fun M u => R.dt_same hr hs hne fun j _ => by unfold up; rw [if_neg hne, if_pos rfl, if_pos rfl]) M (M r) (M s)
 rw [up_two M hne] at this
 exact this
theorem Rin.dt_addrow {α : Type} (R : Rin α) {n r s : Nat} (hr : r < n) (hs : s < n) (hne : r ≠ s) (M : Nat → Nat → α) (c : α) : R.dt n (up M r fun j => R.ad (M r j) (R.ml c (M s j))) = R.dt n M := by
 rw [R.dt_ad hr M (M r) (fun j => R.ml c (M s j)), R.dt_ml hr, up_self, R.dt_same hr hs hne (M := up M r (M s)) fun j _ => by unfold up; rw [if_pos rfl, if_neg (fun h => hne h.symm)], R.ml_z, R.ad_z]
def Rin.cy {α : Type} (M : Nat → Nat → α) (s k : Nat) : Nat → Nat → α := fun i j => if i < s then M i j else if i < s + k then M (i + 1) j else if i = s + k then M s j else M i j
theorem Rin.dt_cy {α : Type} (R : Rin α) {n : Nat} (M : Nat → Nat → α) (s : Nat) : ∀ k, s + k < n → R.dt n (cy M s k) = R.sg k (R.dt n M)
 | 0, h => R.dt_congr fun i j _ _ => by
  unfold cy
  by_cases h1 : i < s
  ·
   rw [if_pos h1]
  ·
   rw [if_neg h1, if_neg (by omega)]
   by_cases h2 : i = s + 0
   ·
    rw [if_pos h2, h2]; rfl
   ·
    rw [if_neg h2]
 | k + 1, h => by
  rw [sg, ← R.dt_cy M s k (by omega), ← R.dt_adjswap (n := n) (r := s + k) (by omega)]
  refine R.dt_congr fun i j _ _ => ?_
  unfold xc up cy
  by_cases h1 : i = s + k + 1
  ·
   subst h1
   rw [if_pos rfl, if_neg (by omega), if_neg (by omega), if_pos (by omega), if_neg (by omega), if_neg (by omega), if_pos rfl]
  ·
   rw [if_neg h1]
   by_cases h2 : i = s + k
   ·
    subst h2
    rw [if_pos rfl, if_neg (by omega), if_pos (by omega), if_neg (by omega), if_neg (by omega), if_neg (by omega)]
   ·
    rw [if_neg h2]
    by_cases h3 : i < s
    ·
     rw [if_pos h3, if_pos h3]
    ·
     rw [if_neg h3, if_neg h3]
     by_cases h4 : i < s + k
     ·
      rw [if_pos (by omega), if_pos h4]
     ·
      rw [if_neg (by omega), if_neg (by omega), if_neg h4, if_neg h2]
end Go.Proofs.Ytlmolloallhclaa.H
set_option linter.unusedVariables false
set_option linter.unusedSimpArgs false
namespace Go.Proofs.Ytlmolloallhclaa.H
open Go.RowKit Go.Proofs.Ytlmolloallhclaa.Num
theorem Rin.sm_sg {α : Type} (R : Rin α) (k : Nat) (f : Nat → α) : ∀ n, R.sg k (R.sm f n) = R.sm (fun i => R.sg k (f i)) n
 | 0 => by rw [sm, sm, R.sg_z]
 | n + 1 => by rw [sm, sm, R.sg_ad, R.sm_sg k f n]
theorem Rin.sm_swap {α : Type} (R : Rin α) (f : Nat → Nat → α) (m : Nat) : ∀ n, R.sm (fun i => R.sm (fun j => f i j) m) n = R.sm (fun j => R.sm (fun i => f i j) n) m
 | 0 => by
  rw [sm]
  exact (R.sm_zero fun i _ => rfl).symm
 | n + 1 => by
  rw [sm, R.sm_swap f m n, ← R.sm_add]
  rfl
theorem Rin.sk_succ (i a : Nat) : sk (i + 1) (a + 1) = sk i a + 1 := by unfold sk; split <;> split <;> omega
theorem Rin.dt_row0 {α : Type} (R : Rin α) : ∀ (n : Nat) (M : Nat → Nat → α), R.dt (n + 1) M = R.sm (fun j => R.sg j (R.ml (M 0 j) (R.dt n fun a b => M (a + 1) (sk j b)))) (n + 1)
 | 0, M => rfl
 | n + 1, M => by
  rw [dt]
  refine (R.sm_head _ _).trans (Eq.trans ?_ (R.sm_head _ _).symm)
  have h0 : R.dt (n + 1) (fun a b => M (sk 0 a) (b + 1)) = R.dt (n + 1) fun a b => M (a + 1) (sk 0 b) := R.dt_congr fun i j _ _ => rfl
  rw [h0]
  refine congrArg (R.ad _) ?_
  have hl : ∀ i, i < n + 1 → R.sg (i + 1) (R.ml (M (i + 1) 0) (R.dt (n + 1) fun a b => M (sk (i + 1) a) (b + 1))) = R.sm (fun j => R.sg (i + j + 1) (R.ml (M (i + 1) 0) (R.ml (M 0 (j + 1)) (R.dt n fun a b => M (sk i a + 1) (sk j b + 1))))) (n + 1) := by
   intro i hi
   rw [R.dt_row0 n, ← R.sm_ml, R.sm_sg]
   refine R.sm_congr fun j hj => ?_
   rw [← R.sg_ml, R.sg_sg, show i + 1 + j = i + j + 1 by omega]
   congr 2
   congr 1
   refine R.dt_congr fun a b _ _ => ?_
   rw [sk_succ]
  have hr : ∀ j, j < n + 1 → R.sg (j + 1) (R.ml (M 0 (j + 1)) (R.dt (n + 1) fun a b => M (a + 1) (sk (j + 1) b))) = R.sm (fun i => R.sg (i + j + 1) (R.ml (M (i + 1) 0) (R.ml (M 0 (j + 1)) (R.dt n fun a b => M (sk i a + 1) (sk j b + 1))))) (n + 1) := by
   intro j hj
   rw [dt, ← R.sm_ml, R.sm_sg]
   refine R.sm_congr fun i hi => ?_
   rw [← R.sg_ml, R.sg_sg, show j + 1 + i = i + j + 1 by omega, ← R.ml_a, R.ml_c (M 0 (j + 1)), R.ml_a]
   congr 3
   refine R.dt_congr fun a b _ _ => ?_
   rw [sk_succ]
  exact (R.sm_congr hl).trans ((R.sm_swap _ _ _).trans (R.sm_congr hr).symm)
theorem Rin.dt_tr {α : Type} (R : Rin α) : ∀ (n : Nat) (M : Nat → Nat → α), R.dt n (fun i j => M j i) = R.dt n M
 | 0, M => rfl
 | n + 1, M => by
  rw [R.dt_row0, dt]
  refine R.sm_congr fun j hj => ?_
  rw [← R.dt_tr n fun a b => M (sk j a) (b + 1)]
theorem Rin.dt_addcol {α : Type} (R : Rin α) {n r s : Nat} (hr : r < n) (hs : s < n) (hne : r ≠ s) (M : Nat → Nat → α) (c : α) : R.dt n (fun i j => if j = r then R.ad (M i r) (R.ml c (M i s)) else M i j) = R.dt n M := by
 rw [← R.dt_tr n M, ← R.dt_addrow hr hs hne (fun i j => M j i) c, ← R.dt_tr]
 rfl
theorem Rin.dt_swapcol {α : Type} (R : Rin α) {n r s : Nat} (hr : r < n) (hs : s < n) (hne : r ≠ s) (M : Nat → Nat → α) : R.dt n (fun i j => if j = s then M i r else if j = r then M i s else M i j) = R.ng (R.dt n M) := by
 rw [← R.dt_tr n M, ← R.dt_swap hr hs hne (fun i j => M j i), ← R.dt_tr]
 rfl
theorem Rin.dt_head {α : Type} (R : Rin α) {n : Nat} {M : Nat → Nat → α} (h : ∀ j, 1 ≤ j → j ≤ n → M 0 j = R.z) : R.dt (n + 1) M = R.ml (M 0 0) (R.dt n fun a b => M (a + 1) (b + 1)) := by
 rw [R.dt_row0, R.sm_one (r := 0) (by omega) fun j hj hne => by rw [h j (by omega) (by omega), R.z_ml, R.sg_z]]
 rfl
theorem Rin.dt_comb {α : Type} (R : Rin α) {n : Nat} (M : Nat → Nat → α) (c : Nat → α) : ∀ k, k ≤ n → R.dt (n + 1) (up M 0 fun j => R.ad (M 0 j) (R.sm (fun i => R.ml (c i) (M (i + 1) j)) k)) = R.dt (n + 1) M
 | 0, _ => R.dt_congr fun i j _ _ => by
  unfold up
  split
  ·
   subst_vars; exact R.ad_z _
  ·
   rfl
 | k + 1, h => by
  rw [← R.dt_comb M c k (by omega)]
  have h1 := R.dt_addrow (n := n + 1) (r := 0) (s := k + 1) (by omega) (by omega) (by omega) (up M 0 fun j => R.ad (M 0 j) (R.sm (fun i => R.ml (c i) (M (i + 1) j)) k)) (c k)
  rw [← h1, up_up]
  refine R.dt_congr fun i j _ _ => ?_
  unfold up
  split
  ·
   exact (R.ad_a _ _ _).symm
  ·
   rfl
theorem Rin.dt_last {α : Type} (R : Rin α) {n : Nat} {M : Nat → Nat → α} (h : ∀ j, j < n → M (n + 1) j = R.z) :
  R.dt (n + 2) M = R.ad (R.ml (M (n + 1) (n + 1)) (R.dt (n + 1) M)) (R.ng (R.ml (M (n + 1) n) (R.dt (n + 1) fun i j => M i (if j = n then n + 1 else j)))) := by
 obtain ⟨M', hM'⟩ : ∃ M' : Nat → Nat → α, M' = fun i j => if i = 0 then M (n + 1) j else M (i - 1) j := ⟨_, rfl⟩
 have h1 := R.dt_cy (n := n + 2) M' 0 (n + 1) (by omega)
 have h2 : R.dt (n + 2) (cy M' 0 (n + 1)) = R.dt (n + 2) M := R.dt_congr fun i j hi hj => by
  unfold cy
  rw [if_neg (by omega), hM']
  by_cases e : i < n + 1
  ·
   rw [if_pos (by omega)]
   show (if i + 1 = 0 then _ else M (i + 1 - 1) j) = _
   rw [if_neg (by omega)]; rfl
  ·
   rw [if_neg (by omega), if_pos (by omega)]
   show (if 0 = 0 then M (n + 1) j else _) = _
   rw [if_pos rfl, show i = n + 1 by omega]
 rw [h2] at h1
 rw [h1, R.dt_row0, R.sm_two (r := n) (by omega) fun j hj a b => by
  have : M' 0 j = R.z := by rw [hM']; exact h j (by omega)
  rw [this, R.z_ml, R.sg_z]]
 have e1 : M' 0 n = M (n + 1) n := by rw [hM']; rfl
 have e2 : M' 0 (n + 1) = M (n + 1) (n + 1) := by rw [hM']; rfl
 have e3 : R.dt (n + 1) (fun a b => M' (a + 1) (sk n b)) = R.dt (n + 1) fun i j => M i (if j = n then n + 1 else j) := R.dt_congr fun i j hi hj => by
  rw [hM']
  show M i (sk n j) = _
  unfold sk
  split
  ·
   rw [if_neg (by omega)]
  ·
   rw [if_pos (by omega), show j = n by omega]
 have e4 : R.dt (n + 1) (fun a b => M' (a + 1) (sk (n + 1) b)) = R.dt (n + 1) M := R.dt_congr fun i j hi hj => by
  rw [hM']
  show M i (sk (n + 1) j) = _
  unfold sk
  rw [if_pos hj]
 rw [e1, e2, e3, e4, R.sg_ad, R.sg_sg, R.sg_sg, R.ad_c, show n + 1 + (n + 1) = 2 * (n + 1) by omega, R.sg_two, show n + 1 + n = 2 * n + 1 by omega, sg, R.sg_two]
end Go.Proofs.Ytlmolloallhclaa.H
set_option linter.unusedVariables false
set_option linter.unusedSimpArgs false
namespace Go.Proofs.Ytlmolloallhclaa.H
open Go.RowKit Go.Proofs.Ytlmolloallhclaa.Num
def ZR : Rin Int where
 ad := fun a b => a + b
 ml := fun a b => a * b
 ng := fun a => -a
 z := 0
 o := 1
 ad_c := Int.add_comm
 ad_a := Int.add_assoc
 ad_z := Int.add_zero
 ad_n := Int.add_right_neg
 ml_c := Int.mul_comm
 ml_a := Int.mul_assoc
 ml_o := Int.mul_one
 ml_d := Int.mul_add
theorem zr_sm (f : Nat → Int) : ∀ n, ZR.sm f n = su f n
 | 0 => rfl
 | n + 1 => by rw [Rin.sm, su, zr_sm f n]; rfl
end Go.Proofs.Ytlmolloallhclaa.H
set_option linter.unusedVariables false
set_option linter.unusedSimpArgs false
namespace Go.Proofs.Ytlmolloallhclaa.H
open Go.RowKit Go.Proofs.Ytlmolloallhclaa.Num
def SR : Rin (Nat → Int) where
 ad F G := fun i => F i + G i
 ml F G := cv F G
 ng F := fun i => - F i
 z := fun _ => 0
 o := fun i => if i = 0 then 1 else 0
 ad_c F G := by funext i; exact Int.add_comm _ _
 ad_a F G H := by funext i; exact Int.add_assoc _ _ _
 ad_z F := by funext i; exact Int.add_zero _
 ad_n F := by funext i; exact Int.add_right_neg _
 ml_c F G := by funext i; exact cv_comm _ _ _
 ml_a F G H := by funext i; exact cv_assoc _ _ _ _
 ml_o F := by funext i; rw [cv_comm, cv_one, Int.one_mul]
 ml_d F G H := by funext i; exact cv_addr _ _ _ _
theorem sr_sm (f : Nat → Nat → Int) (t : Nat) : ∀ n, SR.sm f n t = su (fun i => f i t) n
 | 0 => rfl
 | n + 1 => by
  show SR.sm f n t + f n t = su (fun i => f i t) n + f n t
  rw [sr_sm f t n]
theorem sr_sg (F : Nat → Int) (t : Nat) : ∀ k, SR.sg k F t = if k % 2 = 1 then - F t else F t
 | 0 => rfl
 | k + 1 => by
  show - SR.sg k F t = _
  rw [sr_sg F t k]
  by_cases h : k % 2 = 1
  ·
   rw [if_pos h, if_neg (by omega)]; omega
  ·
   rw [if_neg h, if_pos (by omega)]
theorem sdt_cg {p : Int} : ∀ {n : Nat} {M M' : Nat → Nat → Nat → Int}, (∀ i j, i < n → j < n → ∀ t, cg p (M i j t) (M' i j t)) → ∀ t, cg p (SR.dt n M t) (SR.dt n M' t)
 | 0, _, _, _, t => cg.refl _
 | n + 1, M, M', h, t => by
  rw [Rin.dt, Rin.dt, sr_sm, sr_sm]
  refine cg.su fun i hi => ?_
  rw [sr_sg, sr_sg]
  have h1 : cg p (SR.ml (M i 0) (SR.dt n fun a b => M (Rin.sk i a) (b + 1)) t) (SR.ml (M' i 0) (SR.dt n fun a b => M' (Rin.sk i a) (b + 1)) t) :=
   cg.cv (fun s => h i 0 hi (by omega) s) (fun s => sdt_cg (fun a b ha hb => h (Rin.sk i a) (b + 1) (Rin.sk_lt ha) (by omega)) s) t
  split
  ·
   exact h1.neg
  ·
   exact h1
theorem cv_deg {F G : Nat → Int} {a b : Nat} (hF : ∀ i, a ≤ i → F i = 0) (hG : ∀ i, b ≤ i → G i = 0) (t : Nat) (ht : a + b ≤ t + 1) : cv F G t = 0 :=
 su_zero fun i hi => by
  by_cases h : a ≤ i
  ·
   rw [hF i h, Int.zero_mul]
  ·
   rw [hG (t - i) (by omega), Int.mul_zero]
theorem sdt_deg : ∀ {n : Nat} {M : Nat → Nat → Nat → Int}, (∀ i j, i < n → j < n → ∀ t, 2 ≤ t → M i j t = 0) → ∀ t, n < t → SR.dt n M t = 0
 | 0, M, h, t, ht => if_neg (by omega)
 | n + 1, M, h, t, ht => by
  rw [Rin.dt, sr_sm]
  refine su_zero fun i hi => ?_
  rw [sr_sg]
  have h1 : SR.ml (M i 0) (SR.dt n fun a b => M (Rin.sk i a) (b + 1)) t = 0 :=
   cv_deg (a := 2) (b := n + 1) (fun s hs => h i 0 hi (by omega) s hs) (fun s hs => sdt_deg (fun a b ha hb => h (Rin.sk i a) (b + 1) (Rin.sk_lt ha) (by omega)) s hs) t (by omega)
  rw [h1]; split <;> rfl
def ln (a b : Int) : Nat → Int := fun t => if t = 0 then a else if t = 1 then b else 0
theorem cv_ln (F : Nat → Int) (a b : Int) (t : Nat) : cv F (ln a b) t = F t * a + (if t = 0 then 0 else F (t - 1) * b) := by
 unfold cv
 cases t with
 | zero =>
  show 0 + F 0 * ln a b (0 - 0) = _
  rw [if_pos rfl, Int.zero_add, Int.add_zero]; rfl
 | succ t =>
  rw [if_neg (by omega), show t + 1 + 1 = t + 2 from rfl]
  show (su (fun i => F i * ln a b (t + 1 - i)) t + F t * ln a b (t + 1 - t)) + F (t + 1) * ln a b (t + 1 - (t + 1)) = _
  rw [su_zero fun i hi => by rw [show ln a b (t + 1 - i) = 0 from by unfold ln; rw [if_neg (by omega), if_neg (by omega)], Int.mul_zero]]
  rw [show t + 1 - t = 1 by omega, Nat.sub_self, Nat.add_sub_cancel]
  show (0 + F t * b) + F (t + 1) * a = _
  omega
def yM (A : Nat → Nat → Int) (i j : Nat) : Nat → Int := ln (if i = j then 1 else 0) (- A i j)
def Dy (n : Nat) (A : Nat → Nat → Int) : Nat → Int := SR.dt n (yM A)
theorem Dy_cg {p : Int} {n : Nat} {A B : Nat → Nat → Int} (h : ∀ i j, i < n → j < n → cg p (A i j) (B i j)) (t : Nat) : cg p (Dy n A t) (Dy n B t) :=
 sdt_cg (fun i j hi hj t => by
  unfold yM ln
  split
  ·
   exact cg.refl _
  ·
   split
   ·
    exact (h i j hi hj).neg
   ·
    exact cg.refl _) t
theorem Dy_deg {n : Nat} (A : Nat → Nat → Int) {t : Nat} (ht : n < t) : Dy n A t = 0 :=
 sdt_deg (fun i j _ _ t ht => by unfold yM ln; rw [if_neg (by omega), if_neg (by omega)]) t ht
theorem Dy_congr {n : Nat} {A B : Nat → Nat → Int} (h : ∀ i j, i < n → j < n → A i j = B i j) : Dy n A = Dy n B :=
 SR.dt_congr fun i j hi hj => by unfold yM; rw [h i j hi hj]
def rB (n : Nat) (B : Nat → Nat → Int) (R : Nat → Int) : Nat → Nat → Int
 | 0 => R
 | k + 1 => fun j => su (fun i => rB n B R k i * B i j) n
def vB (n : Nat) (B : Nat → Nat → Int) (C : Nat → Int) : Nat → Nat → Int
 | 0 => C
 | k + 1 => fun i => su (fun j => B i j * vB n B C k j) n
theorem rB_vB (n : Nat) (B : Nat → Nat → Int) (R C : Nat → Int) : ∀ k m, su (fun i => rB n B R k i * vB n B C m i) n = su (fun i => R i * vB n B C (m + k) i) n
 | 0, m => rfl
 | k + 1, m => by
  have h := rB_vB n B R C k (m + 1)
  rw [show m + 1 + k = m + (k + 1) by omega] at h
  rw [← h]
  show su (fun i => su (fun j => rB n B R k j * B j i) n * vB n B C m i) n = su (fun i => rB n B R k i * su (fun j => B i j * vB n B C m j) n) n
  have e1 : ∀ i, su (fun j => rB n B R k j * B j i) n * vB n B C m i = su (fun j => rB n B R k j * B j i * vB n B C m i) n := fun i => (su_mulr _ _ _).symm
  have e2 : ∀ i, rB n B R k i * su (fun j => B i j * vB n B C m j) n = su (fun j => rB n B R k i * (B i j * vB n B C m j)) n := fun i => (su_mul _ _ _).symm
  rw [su_congr fun i _ => e1 i, su_congr fun i _ => e2 i, su_swap]
  exact su_congr fun i _ => su_congr fun j _ => Int.mul_assoc _ _ _
def colB (n : Nat) (A : Nat → Nat → Int) (t : Nat) : Int := if t = 0 then 1 else if t = 1 then - A 0 0 else - su (fun i => A 0 (i + 1) * vB n (fun a b => A (a + 1) (b + 1)) (fun a => A (a + 1) 0) (t - 2) i) n
theorem Dy_berk (n : Nat) (A : Nat → Nat → Int) : Dy (n + 1) A = cv (colB n A) (Dy n fun a b => A (a + 1) (b + 1)) := by
 obtain ⟨B, hB⟩ : ∃ B : Nat → Nat → Int, B = fun a b => A (a + 1) (b + 1) := ⟨_, rfl⟩
 obtain ⟨r, hr⟩ : ∃ r, r = rB n B fun j => A 0 (j + 1) := ⟨_, rfl⟩
 obtain ⟨c, hc⟩ : ∃ c : Nat → Nat → Int, c = fun i t => if t = 0 then 0 else r (t - 1) i := ⟨_, rfl⟩
 have h1 := SR.dt_comb (n := n) (yM A) c n (Nat.le_refl _)
 -- row 0 of the new matrix
 have h2 : ∀ j t, j < n + 1 → SR.ad (yM A 0 j) (SR.sm (fun i => SR.ml (c i) (yM A (i + 1) j)) n) t = if j = 0 then colB n A t else 0 := by
  intro j t hj
  show yM A 0 j t + SR.sm (fun i => SR.ml (c i) (yM A (i + 1) j)) n t = _
  rw [sr_sm]
  have e1 : ∀ i, SR.ml (c i) (yM A (i + 1) j) t = c i t * (if i + 1 = j then 1 else 0) + (if t = 0 then 0 else c i (t - 1) * - A (i + 1) j) := fun i => cv_ln _ _ _ _
  rw [su_congr fun i _ => e1 i, su_add]
  cases j with
  | zero =>
   rw [if_pos rfl, su_zero fun i _ => by rw [if_neg (by omega), Int.mul_zero], Int.zero_add]
   by_cases t0 : t = 0
   ·
    subst t0
    rw [su_zero fun i _ => if_pos rfl]; rfl
   ·
    rw [su_congr fun i _ => if_neg t0]
    by_cases t1 : t = 1
    ·
     subst t1
     rw [su_zero fun i _ => by rw [hc]; exact Int.zero_mul _]
     show - A 0 0 + 0 = - A 0 0
     exact Int.add_zero _
    ·
     have e2 : yM A 0 0 t = 0 := by unfold yM ln; rw [if_neg t0, if_neg t1]
     rw [e2, Int.zero_add]
     unfold colB
     rw [if_neg t0, if_neg t1, ← hB]
     have h3 := rB_vB n B (fun j => A 0 (j + 1)) (fun a => A (a + 1) 0) (t - 2) 0
     rw [Nat.zero_add, ← hr] at h3
     rw [← h3]
     have e3 : ∀ i, c i (t - 1) * - A (i + 1) 0 = -1 * (r (t - 2) i * vB n B (fun a => A (a + 1) 0) 0 i) := fun i => by
      rw [hc]
      show (if t - 1 = 0 then 0 else r (t - 1 - 1) i) * - A (i + 1) 0 = -1 * (r (t - 2) i * A (i + 1) 0)
      rw [if_neg (by omega), show t - 1 - 1 = t - 2 by omega, Int.mul_neg, Int.neg_mul, Int.one_mul]
     rw [su_congr fun i _ => e3 i, su_mul, Int.neg_mul, Int.one_mul]
  | succ j =>
   rw [if_neg (by omega)]
   have e2 : su (fun i => c i t * (if i + 1 = j + 1 then 1 else 0)) n = c j t := by
    have := ZR.sm_one (f := fun i => c i t * (if i + 1 = j + 1 then 1 else 0)) (r := j) (n := n) (by omega) fun i _ hne => by
     show c i t * (if i + 1 = j + 1 then 1 else 0) = 0
     rw [if_neg (by omega), Int.mul_zero]
    rw [zr_sm] at this
    rw [this, if_pos rfl, Int.mul_one]
   rw [e2]
   by_cases t0 : t = 0
   ·
    subst t0
    rw [su_zero fun i _ => if_pos rfl, hc]; rfl
   ·
    rw [su_congr fun i _ => if_neg t0]
    by_cases t1 : t = 1
    ·
     subst t1
     rw [su_zero fun i _ => by rw [hc]; exact Int.zero_mul _, hc, hr]
     show - A 0 (j + 1) + (A 0 (j + 1) + 0) = 0
     omega
    ·
     have e3 : yM A 0 (j + 1) t = 0 := by unfold yM ln; rw [if_neg t0, if_neg t1]
     rw [e3, Int.zero_add]
     have e4 : c j t = su (fun i => r (t - 2) i * B i j) n := by
      rw [hc]
      show (if t = 0 then 0 else r (t - 1) j) = _
      rw [if_neg t0, show t - 1 = t - 2 + 1 by omega, hr]
      rfl
     have e5 : ∀ i, c i (t - 1) * - A (i + 1) (j + 1) = -1 * (r (t - 2) i * B i j) := fun i => by
      rw [hc, hB]
      show (if t - 1 = 0 then 0 else r (t - 1 - 1) i) * - A (i + 1) (j + 1) = -1 * (r (t - 2) i * A (i + 1) (j + 1))
      rw [if_neg (by omega), show t - 1 - 1 = t - 2 by omega, Int.mul_neg, Int.neg_mul, Int.one_mul]
     rw [e4, su_congr fun i _ => e5 i, su_mul, Int.neg_mul, Int.one_mul, Int.add_right_neg]
 unfold Dy
 rw [← h1, SR.dt_head fun j h1 h2' => by
  funext t
  show (if (0 : Nat) = 0 then SR.ad (yM A 0 j) (SR.sm (fun i => SR.ml (c i) (yM A (i + 1) j)) n) else yM A 0 j) t = 0
  rw [if_pos rfl]
  have := h2 j t (by omega)
  rw [if_neg (by omega)] at this
  exact this]
 have e1 : Rin.up (yM A) 0 (fun j => SR.ad (yM A 0 j) (SR.sm (fun i => SR.ml (c i) (yM A (i + 1) j)) n)) 0 0 = colB n A := by
  funext t
  unfold Rin.up
  rw [if_pos rfl]
  have := h2 0 t (by omega)
  rwa [if_pos rfl] at this
 rw [e1]
 have e2 : SR.dt n (fun a b => Rin.up (yM A) 0 (fun j => SR.ad (yM A 0 j) (SR.sm (fun i => SR.ml (c i) (yM A (i + 1) j)) n)) (a + 1) (b + 1)) = SR.dt n (yM fun a b => A (a + 1) (b + 1)) := SR.dt_congr fun i j _ _ => by
  unfold Rin.up
  rw [if_neg (by omega)]
  unfold yM
  congr 1
  by_cases e : i = j
  ·
   rw [if_pos (by omega), if_pos e]
  ·
   rw [if_neg (by omega), if_neg e]
 rw [e2]; rfl
end Go.Proofs.Ytlmolloallhclaa.H
set_option linter.unusedVariables false
set_option linter.unusedSimpArgs false
namespace Go.Proofs.Ytlmolloallhclaa.H
open Go.RowKit Go.Proofs.Ytlmolloallhclaa.Num
def trx (r s i : Nat) : Nat := if i = r then s else if i = s then r else i
theorem Dy_swap {n r s : Nat} (hr : r < n) (hs : s < n) (hne : r ≠ s) (A : Nat → Nat → Int) : Dy n (fun i j => A (trx r s i) (trx r s j)) = Dy n A := by
 have h1 := SR.dt_swap hr hs hne (yM A)
 have h2 := SR.dt_swapcol hr hs hne (Rin.xc (yM A) r s)
 rw [h1, SR.ng_ng] at h2
 unfold Dy
 rw [← h2]
 refine SR.dt_congr fun i j _ _ => ?_
 have e : ∀ i j, yM (fun i j => A (trx r s i) (trx r s j)) i j = yM A (trx r s i) (trx r s j) := fun i j => by
  unfold yM
  congr 1
  unfold trx
  by_cases h : i = j
  ·
   subst h; rw [if_pos rfl, if_pos rfl]
  ·
   rw [if_neg h, if_neg]
   split <;> split <;> (try split) <;> (try split) <;> omega
 have e2 : ∀ j, Rin.xc (yM A) r s i j = yM A (trx r s i) j := fun j => by
  unfold Rin.xc Rin.up trx
  by_cases h1 : i = s
  ·
   rw [if_pos h1, if_neg (by omega), if_pos h1]
  ·
   rw [if_neg h1]
   by_cases h2 : i = r
   ·
    rw [if_pos h2, if_pos h2]
   ·
    rw [if_neg h2, if_neg h2, if_neg h1]
 rw [e, e2, e2, e2]
 show yM A (trx r s i) (if j = r then s else if j = s then r else j) = if j = s then yM A (trx r s i) r else if j = r then yM A (trx r s i) s else yM A (trx r s i) j
 by_cases h1 : j = s
 ·
  rw [if_neg (show ¬ j = r by omega), if_pos h1, if_pos h1]
 ·
  by_cases h2 : j = r
  ·
   rw [if_pos h2, if_neg h1, if_pos h2]
  ·
   rw [if_neg h2, if_neg h1, if_neg h1, if_neg h2]
def sim1 (A : Nat → Nat → Int) (r s : Nat) (k : Int) : Nat → Nat → Int := fun i j => if i = r then A r j - k * A s j else A i j
def sim2 (A : Nat → Nat → Int) (r s : Nat) (k : Int) : Nat → Nat → Int := fun i j => if j = s then sim1 A r s k i s + k * sim1 A r s k i r else sim1 A r s k i j
def cst (k : Int) : Nat → Int := fun t => if t = 0 then k else 0
theorem Dy_sim {n r s : Nat} (hr : r < n) (hs : s < n) (hne : r ≠ s) (A : Nat → Nat → Int) (k : Int) : Dy n (sim2 A r s k) = Dy n A := by
 have h1 := SR.dt_addrow hr hs hne (yM A) (cst (-k))
 have h2 := SR.dt_addcol (r := s) (s := r) hs hr (fun e => hne e.symm) (Rin.up (yM A) r fun j => SR.ad (yM A r j) (SR.ml (cst (-k)) (yM A s j))) (cst k)
 rw [h1] at h2
 unfold Dy
 rw [← h2]
 refine SR.dt_congr fun i j _ _ => ?_
 funext t
 have e1 : ∀ j, Rin.up (yM A) r (fun j => SR.ad (yM A r j) (SR.ml (cst (-k)) (yM A s j))) i j t = if i = r then yM A r j t + -k * yM A s j t else yM A i j t := fun j => by
  unfold Rin.up
  split
  ·
   show yM A r j t + cv (cst (-k)) (yM A s j) t = _
   unfold cst
   rw [cv_one]
  ·
   rfl
 have e2 : (if j = s then SR.ad (Rin.up (yM A) r (fun j => SR.ad (yM A r j) (SR.ml (cst (-k)) (yM A s j))) i s) (SR.ml (cst k) (Rin.up (yM A) r (fun j => SR.ad (yM A r j) (SR.ml (cst (-k)) (yM A s j))) i r)) else Rin.up (yM A) r (fun j => SR.ad (yM A r j) (SR.ml (cst (-k)) (yM A s j))) i j) t
   = if j = s then (if i = r then yM A r s t + -k * yM A s s t else yM A i s t) + k * (if i = r then yM A r r t + -k * yM A s r t else yM A i r t) else (if i = r then yM A r j t + -k * yM A s j t else yM A i j t) := by
  by_cases h : j = s
  ·
   rw [if_pos h, if_pos h, ← e1, ← e1]
   show Rin.up (yM A) r _ i s t + cv (cst k) (Rin.up (yM A) r _ i r) t = _
   unfold cst
   rw [cv_one]
  ·
   rw [if_neg h, if_neg h, e1]
 refine Eq.trans ?_ e2.symm
 unfold yM ln sim2 sim1
 by_cases t0 : t = 0
 ·
  simp only [if_pos t0, if_neg hne, if_neg (fun e : s = r => hne e.symm), if_pos rfl, eq_self, if_true]
  by_cases hj : j = s
  ·
   subst hj
   by_cases hi : i = r
   ·
    subst hi; simp only [if_neg hne, eq_self, if_true]; omega
   ·
    simp only [if_neg hi, eq_self, if_true]; omega
  ·
   by_cases hi : i = r
   ·
    subst hi
    simp only [if_neg hj, eq_self, if_true, if_neg (fun e : s = j => hj e.symm)]; omega
   ·
    simp only [if_neg hi, if_neg hj]
 ·
  by_cases t1 : t = 1
  ·
   simp only [if_neg t0, if_pos t1]
   by_cases hj : j = s
   ·
    by_cases hi : i = r
    ·
     simp only [if_pos hi, if_pos hj]; grind
    ·
     simp only [if_neg hi, if_pos hj]; grind
   ·
    by_cases hi : i = r
    ·
     simp only [if_pos hi, if_neg hj]; grind
    ·
     simp only [if_neg hi, if_neg hj]
  ·
   simp only [if_neg t0, if_neg t1, Int.mul_zero, Int.add_zero, ite_self]
def prH (H : Nat → Nat → Int) (k : Nat) : Nat → Int
 | 0 => 1
 | d + 1 => prH H k d * H (k - d) (k - d - 1)
theorem prH_succ (H : Nat → Nat → Int) (k : Nat) : ∀ e, prH H (k + 1) (e + 1) = H (k + 1) k * prH H k e
 | 0 => by
  show 1 * H (k + 1 - 0) (k + 1 - 0 - 1) = H (k + 1) k * 1
  rw [Int.one_mul, Int.mul_one]; rfl
 | e + 1 => by
  show prH H (k + 1) (e + 1) * H (k + 1 - (e + 1)) (k + 1 - (e + 1) - 1) = H (k + 1) k * (prH H k e * H (k - e) (k - e - 1))
  rw [prH_succ H k e, show k + 1 - (e + 1) = k - e by omega, Int.mul_assoc]
def mvS (F : Nat → Int) (d t : Nat) : Int := if d ≤ t then F (t - d) else 0
def gH (H : Nat → Nat → Int) (k : Nat) (v : Nat → Nat → Int) : Nat → Int := SR.dt (k + 1) fun i j => if j = k then v i else yM H i j
theorem gH_closed {n : Nat} {H : Nat → Nat → Int} (hH : ∀ i j, i < n → j + 1 < i → H i j = 0) (v : Nat → Nat → Int) : ∀ k, k < n → ∀ t, gH H k v t = su (fun d => prH H k d * mvS (cv (v (k - d)) (Dy (k - d) H)) d t) (k + 1)
 | 0, _, t => by
  show (0 : Int) + cv (v 0) SR.o t = 0 + 1 * mvS (cv (v (0 - 0)) (Dy 0 H)) 0 t
  unfold mvS
  rw [if_pos (Nat.zero_le _), Int.one_mul]; rfl
 | k + 1, hk, t => by
  have h1 := SR.dt_last (n := k) (M := fun i j => if j = k + 1 then v i else yM H i j) fun j hj => by
   funext s
   show (if j = k + 1 then v (k + 1) else yM H (k + 1) j) s = 0
   rw [if_neg (by omega)]
   unfold yM ln
   rw [if_neg (show ¬ k + 1 = j by omega), hH (k + 1) j hk (by omega)]
   split
   ·
    rfl
   ·
    split <;> rfl
  have e1 : SR.dt (k + 1) (fun i j => if j = k + 1 then v i else yM H i j) = Dy (k + 1) H := SR.dt_congr fun i j _ hj => by
   rw [if_neg (by omega)]
  have e2 : (SR.dt (k + 1) fun i j => (fun i j => if j = k + 1 then v i else yM H i j) i (if j = k then k + 1 else j)) = gH H k v := SR.dt_congr fun i j _ hj => by
   show (if (if j = k then k + 1 else j) = k + 1 then v i else yM H i (if j = k then k + 1 else j)) = if j = k then v i else yM H i j
   by_cases h : j = k
   ·
    rw [if_pos h, if_pos h, if_pos rfl]
   ·
    rw [if_neg h, if_neg h, if_neg (by omega)]
  rw [e1, e2] at h1
  have h2 : gH H (k + 1) v t = cv (v (k + 1)) (Dy (k + 1) H) t + - cv (yM H (k + 1) k) (gH H k v) t := by
   show SR.dt (k + 2) (fun i j => if j = k + 1 then v i else yM H i j) t = _
   rw [h1]
   show cv (if k + 1 = k + 1 then v (k + 1) else yM H (k + 1) (k + 1)) (Dy (k + 1) H) t + - cv (if k = k + 1 then v (k + 1) else yM H (k + 1) k) (gH H k v) t = _
   rw [if_pos rfl, if_neg (by omega)]
  have h3 : - cv (yM H (k + 1) k) (gH H k v) t = H (k + 1) k * mvS (gH H k v) 1 t := by
   unfold yM mvS
   rw [cv_comm, cv_ln, if_neg (show ¬ k + 1 = k by omega), Int.mul_zero, Int.zero_add]
   by_cases h : t = 0
   ·
    rw [if_pos h, if_neg (by omega)]; simp
   ·
    rw [if_neg h, if_pos (by omega), Int.mul_neg, Int.neg_neg, Int.mul_comm]
  rw [h2, h3, su_head]
  have h4 : mvS (cv (v (k + 1 - 0)) (Dy (k + 1 - 0) H)) 0 t = cv (v (k + 1)) (Dy (k + 1) H) t := by unfold mvS; rw [if_pos (Nat.zero_le _)]; rfl
  rw [show prH H (k + 1) 0 = 1 from rfl, Int.one_mul, h4]
  congr 1
  by_cases h : 1 ≤ t
  ·
   have h5 : mvS (gH H k v) 1 t = gH H k v (t - 1) := by unfold mvS; rw [if_pos h]
   rw [h5, gH_closed hH v k (by omega) (t - 1), ← su_mul]
   refine su_congr fun d hd => ?_
   rw [prH_succ, Int.mul_assoc, show k + 1 - (d + 1) = k - d by omega]
   congr 2
   unfold mvS
   by_cases h6 : d ≤ t - 1
   ·
    rw [if_pos h6, if_pos (by omega), show t - 1 - d = t - (d + 1) by omega]
   ·
    rw [if_neg h6, if_neg (by omega)]
  ·
   have h5 : mvS (gH H k v) 1 t = 0 := by unfold mvS; rw [if_neg h]
   rw [h5, Int.mul_zero]
   refine (su_zero fun d _ => ?_).symm
   unfold mvS
   rw [if_neg (by omega), Int.mul_zero]
theorem Dy_hess {n : Nat} {H : Nat → Nat → Int} (hH : ∀ i j, i < n → j + 1 < i → H i j = 0) {k : Nat} (hk : k < n) (t : Nat) :
  Dy (k + 1) H t = Dy k H t - H k k * mvS (Dy k H) 1 t - su (fun e => prH H k (e + 1) * H (k - (e + 1)) k * mvS (Dy (k - (e + 1)) H) (e + 2) t) k := by
 have h1 : Dy (k + 1) H = gH H k fun i => yM H i k := SR.dt_congr fun i j _ _ => by
  by_cases h : j = k
  ·
   rw [if_pos h, h]
  ·
   rw [if_neg h]
 rw [h1, gH_closed hH _ k hk t, su_head]
 have e0 : prH H k 0 * mvS (cv (yM H (k - 0) k) (Dy (k - 0) H)) 0 t = Dy k H t - H k k * mvS (Dy k H) 1 t := by
  rw [show prH H k 0 = 1 from rfl, Int.one_mul, Nat.sub_zero]
  show (if 0 ≤ t then cv (yM H k k) (Dy k H) (t - 0) else 0) = _
  rw [if_pos (Nat.zero_le _), Nat.sub_zero]
  unfold yM mvS
  rw [cv_comm, cv_ln, if_pos rfl, Int.mul_one]
  by_cases h : t = 0
  ·
   rw [if_pos h, if_neg (by omega), Int.mul_zero]; omega
  ·
   rw [if_neg h, if_pos (by omega), Int.mul_neg, Int.mul_comm]; omega
 rw [e0]
 have e1 : ∀ e, e < k → prH H k (e + 1) * mvS (cv (yM H (k - (e + 1)) k) (Dy (k - (e + 1)) H)) (e + 1) t = -1 * (prH H k (e + 1) * H (k - (e + 1)) k * mvS (Dy (k - (e + 1)) H) (e + 2) t) := fun e he => by
  have : mvS (cv (yM H (k - (e + 1)) k) (Dy (k - (e + 1)) H)) (e + 1) t = - (H (k - (e + 1)) k * mvS (Dy (k - (e + 1)) H) (e + 2) t) := by
   unfold mvS yM
   by_cases h : e + 1 ≤ t
   ·
    rw [if_pos h, cv_comm, cv_ln, if_neg (show ¬ k - (e + 1) = k by omega), Int.mul_zero, Int.zero_add]
    by_cases h2 : t - (e + 1) = 0
    ·
     rw [if_pos h2, if_neg (by omega), Int.mul_zero]; rfl
    ·
     rw [if_neg h2, if_pos (by omega), show t - (e + 1) - 1 = t - (e + 2) by omega, Int.mul_neg, Int.mul_comm]
   ·
    rw [if_neg h, if_neg (by omega), Int.mul_zero]; rfl
  rw [this, Int.mul_neg, Int.neg_mul, Int.one_mul, Int.mul_assoc]
 rw [su_congr e1, su_mul, Int.neg_mul, Int.one_mul]
 omega
end Go.Proofs.Ytlmolloallhclaa.H
namespace Go.Proofs.Ytlmolloallhclaa.H
open Go.RowKit Go.Proofs.YtlmolloallhclaaW.PrintWords Go.Proofs.YtlmolloallhclaaW.PrintLast Go.Proofs.YtlmolloallhclaaW.PrintMore
attribute [local go_sem] max2_int min2_int max_two min_two max_three min_three max_four min_four   -- for this text's walks alone
set_option linter.unusedVariables false
set_option linter.unusedSimpArgs false
def laws_eqInt64S.l0 : Nat → List Int → List Int → Int → Option (Bool)
 | 0, _, _, _ => none
 | k + 1, x0, x1, x5 => if x5 < (x0.length : Int) then (if 0 ≤ x5 then (if x5 < (x1.length : Int) then (if (rd x0 x5) = (rd x1 x5) then (laws_eqInt64S.l0 k x0 x1 (wrap64 (x5 + 1))) else (some false)) else (none)) else (none)) else (some true)
def laws_eqInt64S.f (k : Nat) (l0 : List Int) (l1 : List Int) : Option (Bool) := if (l0.length : Int) = (l1.length : Int) then (laws_eqInt64S.l0 k l0 l1 0) else (some false)
set_option maxHeartbeats 8000000 in
set_option maxRecDepth 100000 in
theorem laws_eqInt64S.calls (k : Nat) (A0 : Option Addr) (c0 : Nat) (l0 : List Int) (A1 : Option Addr) (c1 : Nat) (l1 : List Int) (r : Bool) (w : World) (hr0 : Kd.C (Kd.int .i64) w A0 l0.length l0) (hc0 : l0.length ≤ c0) (hr1 : Kd.C (Kd.int .i64) w A1 l1.length l1) (hc1 : l1.length ≤ c1) (h : laws_eqInt64S.f k l0 l1 = some r) :
  Calls Try.prog 13 #[.slice A0 l0.length c0, .slice A1 l1.length c1] w fun e w' => e = .returned (.bool r) ∧ Drawn0 w w' := by
 have HR0 := as0 hr0
 have HC0 := as0 hc0
 clear hr0 hc0
 have HR1 := as0 hr1
 have HC1 := as0 hc1
 clear hr1 hc1
 have H : (if (l0.length : Int) = (l1.length : Int) then (laws_eqInt64S.l0 k l0 l1 0) else (some false)) = some r := h
 clear h
 by_cases c3 : (l0.length : Int) = (l1.length : Int)
 ·
  rw [if_pos c3] at H
  have c3b0 : ((l0.length : Int) == (l1.length : Int)) = true := beq_iff_eq.mpr c3
  have c3b1 : ((l0.length : Int) != (l1.length : Int)) = false := bne_eq_false_iff_eq.mpr c3
  have c3b2 : (l0.length == l1.length) = true := by first | simpa using c3 | (simp at c3 ⊢; omega)
  clear c3
  have H' := as0 H
  clear H
  go_enter Try.func13, Try.ntmps13
  go_wp2
  repeat (go_quiet (fail); try go_wp2)
  go_loopg [5] k (fun kq v5 w' => ∃ (x5_1 : Int), v5 = .int .i64 x5_1 ∧ Aside0 (laws_eqInt64S.l0 kq l0 l1 x5_1 = some r) ∧ Aside0 (kq ≤ k) ∧ Drawn0 w w')
  case atStart => exact ⟨(0), ea_, H', ⟨Nat.le_refl _⟩, dr_⟩
  case round =>
   clear H'
   try clear c1
   try clear p2
   try clear c3
   try clear c3b0
   try clear c3b1
   try clear c3b2
   obtain ⟨x5_1, rfl, HA, HK1, ⟨m1, rfl⟩⟩ := hrel
   cases gk with
   | zero => exact absurd HA.out (by simp [laws_eqInt64S.l0])
   | succ k1 =>
    have H := HA.out
    clear HA
    simp only [laws_eqInt64S.l0] at H
    by_cases c4 : x5_1 < (l0.length : Int)
    ·
     rw [if_pos c4] at H
     have c4b0 : decide (x5_1 < (l0.length : Int)) = true := decide_eq_true c4
     clear c4
     by_cases c5 : 0 ≤ x5_1
     ·
      rw [if_pos c5] at H
      have c5b0 : decide (0 ≤ x5_1) = true := decide_eq_true c5
      clear c5
      by_cases c6 : x5_1 < (l1.length : Int)
      ·
       rw [if_pos c6] at H
       have c6b0 : decide (x5_1 < (l1.length : Int)) = true := decide_eq_true c6
       clear c6
       by_cases c7 : (rd l0 x5_1) = (rd l1 x5_1)
       ·
        rw [if_pos c7] at H
        have c7b0 : ((rd l0 x5_1) == (rd l1 x5_1)) = true := beq_iff_eq.mpr c7
        have c7b1 : ((rd l0 x5_1) != (rd l1 x5_1)) = false := bne_eq_false_iff_eq.mpr c7
        clear c7
        have H' := as0 H
        clear H
        have p216 : 0 ≤ (x5_1 : Int) := oa_
        have q216 : x5_1 < (l0.length : Int) := oa_
        obtain ⟨ad216, e216, hx216_0⟩ := Kd.at_int HR0.out x5_1 p216 q216
        cases e216
        replace p216 := eq_true p216
        replace q216 := eq_true q216
        have p217 : 0 ≤ (x5_1 : Int) := oa_
        have q217 : x5_1 < (l1.length : Int) := oa_
        obtain ⟨ad217, e217, hx217_0⟩ := Kd.at_int HR1.out x5_1 p217 q217
        cases e217
        replace p217 := eq_true p217
        replace q217 := eq_true q217
        go_wp2
        repeat (go_quiet (fail); try go_wp2)
        go_roundg k1
        case measure => have := HK1.out; omega
        case rel => exact ⟨(wrap64 (x5_1 + 1)), ea_, H', ⟨by have := HK1.out; omega⟩, dr_⟩
       ·
        rw [if_neg c7] at H
        have c7b0 : ((rd l0 x5_1) == (rd l1 x5_1)) = false := beq_eq_false_iff_ne.mpr c7
        have c7b1 : ((rd l0 x5_1) != (rd l1 x5_1)) = true := bne_iff_ne.mpr c7
        obtain rfl := Option.some.inj H
        have p216 : 0 ≤ (x5_1 : Int) := oa_
        have q216 : x5_1 < (l0.length : Int) := oa_
        obtain ⟨ad216, e216, hx216_0⟩ := Kd.at_int HR0.out x5_1 p216 q216
        cases e216
        replace p216 := eq_true p216
        replace q216 := eq_true q216
        have p217 : 0 ≤ (x5_1 : Int) := oa_
        have q217 : x5_1 < (l1.length : Int) := oa_
        obtain ⟨ad217, e217, hx217_0⟩ := Kd.at_int HR1.out x5_1 p217 q217
        cases e217
        replace p217 := eq_true p217
        replace q217 := eq_true q217
        go_wp2
        repeat (go_quiet (fail); try go_wp2)
        go_ret
        exact ⟨ea_, dr_⟩
      ·
       rw [if_neg c6] at H
       exact absurd H (by simp)
     ·
      rw [if_neg c5] at H
      exact absurd H (by simp)
    ·
     rw [if_neg c4] at H
     have c4b0 : decide (x5_1 < (l0.length : Int)) = false := decide_eq_false c4
     clear c4
     obtain rfl := Option.some.inj H
     go_wp2
     repeat (go_quiet (fail); try go_wp2)
     go_ret
     exact ⟨ea_, dr_⟩
 ·
  rw [if_neg c3] at H
  have c3b0 : ((l0.length : Int) == (l1.length : Int)) = false := beq_eq_false_iff_ne.mpr c3
  have c3b1 : ((l0.length : Int) != (l1.length : Int)) = true := bne_iff_ne.mpr c3
  have c3b2 : (l0.length == l1.length) = false := by first | simpa using c3 | (simp at c3 ⊢; omega)
  obtain rfl := Option.some.inj H
  go_enter Try.func13, Try.ntmps13
  go_wp2
  repeat (go_quiet (fail); try go_wp2)
  go_ret
  exact ⟨ea_, dr_⟩
def laws_heldInt64S.l0 : Nat → List Int → Int → Int → Option (Int)
 | 0, _, _, _ => none
 | k + 1, x0, x1, x5 => if x5 < (x0.length : Int) then (if 0 ≤ x5 then (if (rd x0 x5) = x1 then (laws_heldInt64S.l0 k x0 (wrap64 (x1 + 1)) (wrap64 (x5 + 1))) else (some (-1))) else (none)) else (some x1)
def laws_heldInt64S.f (k : Nat) (l0 : List Int) (a1 : Int) : Option (Int) := laws_heldInt64S.l0 k l0 a1 0
set_option maxHeartbeats 8000000 in
set_option maxRecDepth 100000 in
theorem laws_heldInt64S.calls (k : Nat) (A0 : Option Addr) (c0 : Nat) (l0 : List Int) (a1 : Int) (r : Int) (w : World) (hr0 : Kd.C (Kd.int .i64) w A0 l0.length l0) (hc0 : l0.length ≤ c0) (h : laws_heldInt64S.f k l0 a1 = some r) :
  Calls Try.prog 27 #[.slice A0 l0.length c0, .int .i64 a1] w fun e w' => e = .returned (.int .i64 r) ∧ Drawn0 w w' := by
 have HR0 := as0 hr0
 have HC0 := as0 hc0
 clear hr0 hc0
 have H : (laws_heldInt64S.l0 k l0 a1 0) = some r := h
 clear h
 have H' := as0 H
 clear H
 go_enter Try.func27, Try.ntmps27
 go_wp2
 go_loopg [1, 5] k (fun kq v1 v5 w' => ∃ (x1_1 : Int) (x5_1 : Int), v1 = .int .i64 x1_1 ∧ v5 = .int .i64 x5_1 ∧ Aside0 (laws_heldInt64S.l0 kq l0 x1_1 x5_1 = some r) ∧ Aside0 (kq ≤ k) ∧ Drawn0 w w')
 case atStart => exact ⟨(a1), (0), ea_, ea_, H', ⟨Nat.le_refl _⟩, dr_⟩
 case round =>
  clear H'
  try clear c2
  try clear p2
  obtain ⟨x1_1, x5_1, rfl, rfl, HA, HK1, ⟨m1, rfl⟩⟩ := hrel
  cases gk with
  | zero => exact absurd HA.out (by simp [laws_heldInt64S.l0])
  | succ k1 =>
   have H := HA.out
   clear HA
   simp only [laws_heldInt64S.l0] at H
   by_cases c3 : x5_1 < (l0.length : Int)
   ·
    rw [if_pos c3] at H
    have c3b0 : decide (x5_1 < (l0.length : Int)) = true := decide_eq_true c3
    clear c3
    by_cases c4 : 0 ≤ x5_1
    ·
     rw [if_pos c4] at H
     have c4b0 : decide (0 ≤ x5_1) = true := decide_eq_true c4
     clear c4
     by_cases c5 : (rd l0 x5_1) = x1_1
     ·
      rw [if_pos c5] at H
      have c5b0 : ((rd l0 x5_1) == x1_1) = true := beq_iff_eq.mpr c5
      have c5b1 : ((rd l0 x5_1) != x1_1) = false := bne_eq_false_iff_eq.mpr c5
      clear c5
      have H' := as0 H
      clear H
      have p222 : 0 ≤ (x5_1 : Int) := oa_
      have q222 : x5_1 < (l0.length : Int) := oa_
      obtain ⟨ad222, e222, hx222_0⟩ := Kd.at_int HR0.out x5_1 p222 q222
      cases e222
      replace p222 := eq_true p222
      replace q222 := eq_true q222
      go_wp2
      go_roundg k1
      case measure => have := HK1.out; omega
      case rel => exact ⟨(wrap64 (x1_1 + 1)), (wrap64 (x5_1 + 1)), ea_, ea_, H', ⟨by have := HK1.out; omega⟩, dr_⟩
     ·
      rw [if_neg c5] at H
      have c5b0 : ((rd l0 x5_1) == x1_1) = false := beq_eq_false_iff_ne.mpr c5
      have c5b1 : ((rd l0 x5_1) != x1_1) = true := bne_iff_ne.mpr c5
      obtain rfl := Option.some.inj H
      have p222 : 0 ≤ (x5_1 : Int) := oa_
      have q222 : x5_1 < (l0.length : Int) := oa_
      obtain ⟨ad222, e222, hx222_0⟩ := Kd.at_int HR0.out x5_1 p222 q222
      cases e222
      replace p222 := eq_true p222
      replace q222 := eq_true q222
      go_wp2
      go_ret
      exact ⟨ea_, dr_⟩
    ·
     rw [if_neg c4] at H
     exact absurd H (by simp)
   ·
    rw [if_neg c3] at H
    have c3b0 : decide (x5_1 < (l0.length : Int)) = false := decide_eq_false c3
    clear c3
    obtain rfl := Option.some.inj H
    go_wp2
    go_ret
    exact ⟨ea_, dr_⟩
def laws_markInt64S.l0 : Nat → List Int → Int → Int → Option (Int × List Int)
 | 0, _, _, _ => none
 | k + 1, x0, x1, x5 => if x5 < (x0.length : Int) then (if 0 ≤ x5 then (laws_markInt64S.l0 k (x0.set (x5 : Int).toNat x1) (wrap64 (x1 + 1)) (wrap64 (x5 + 1))) else (none)) else (some (x1, x0))
def laws_markInt64S.f (k : Nat) (l0 : List Int) (a1 : Int) : Option (Int × List Int) := laws_markInt64S.l0 k l0 a1 0
set_option maxHeartbeats 8000000 in
set_option maxRecDepth 100000 in
theorem laws_markInt64S.calls (k : Nat) (P0_ : Nat → Prop) (u9000_ : Value) (l0 : List Int) (a1 : Int) (r1 : Int) (r2 : List Int) (w0 w : World) (hB : Below w0.heap.size w0 w) (ho0 : Kd.R (Kd.int .i64) 2 w w0.heap.size P0_ u9000_ l0) (h : laws_markInt64S.f k l0 a1 = some (r1, r2)) :
  Calls Try.prog 14 #[u9000_, .int .i64 a1] w fun e w' => e = .returned (.int .i64 r1) ∧ Kd.R (Kd.int .i64) 2 w' w0.heap.size (fun k_ => (P0_ k_ ∨ w.heap.size ≤ k_)) u9000_ r2 ∧ Below w0.heap.size w0 w' ∧ Kept w w' (fun k_ => P0_ k_) := by
 have HO0 := as0 (show Kd.R (Kd.int .i64) 2 w w0.heap.size (fun k_ => (P0_ k_ ∨ w.heap.size ≤ k_)) u9000_ l0 from Kd.R_mono ho0 (fun k_ hk => (.inl hk)))
 have HK := as0 (Kept.refl w (fun k_ => P0_ k_))
 have HW0 := as0 hB.size
 have HB := as0 hB
 clear hB
 have H : (laws_markInt64S.l0 k l0 a1 0) = some (r1, r2) := h
 clear h
 have H' := as0 H
 clear H
 go_enter Try.func14, Try.ntmps14
 go_wp2
 go_loopg [1, 5] k (fun kq v1 v5 w' => ∃ (x0_1 : List Int) (x1_1 : Int) (x5_1 : Int), v1 = .int .i64 x1_1 ∧ v5 = .int .i64 x5_1 ∧ Aside0 (laws_markInt64S.l0 kq x0_1 x1_1 x5_1 = some (r1, r2)) ∧ Aside0 (kq ≤ k) ∧ Aside0 (Kd.R (Kd.int .i64) 2 w' w0.heap.size (fun k_ => (P0_ k_ ∨ w.heap.size ≤ k_)) u9000_ x0_1) ∧ Aside0 (Kept w w' (fun k_ => P0_ k_)) ∧ Aside0 (Below w0.heap.size w0 w'))
 case atStart => exact ⟨(l0), (a1), (0), ea_, ea_, H', ⟨Nat.le_refl _⟩, ⟨rs HO0⟩, ⟨by repeat (first | (with_reducible first | exact HK.out | apply Kept.alloc | apply Kept.drewN | apply Kept.drew) | exact HK.out)⟩, ⟨bs HB⟩⟩
 case round =>
  clear H'
  try clear c1
  try clear p2
  obtain ⟨x0_1, x1_1, x5_1, rfl, rfl, HA, HK1, HO_0, HK, HB⟩ := hrel
  cases gk with
  | zero => exact absurd HA.out (by simp [laws_markInt64S.l0])
  | succ k1 =>
   have H := HA.out
   clear HA
   simp only [laws_markInt64S.l0] at H
   by_cases c3 : x5_1 < (x0_1.length : Int)
   ·
    rw [if_pos c3] at H
    have c3b0 : decide (x5_1 < (x0_1.length : Int)) = true := decide_eq_true c3
    clear c3
    by_cases c4 : 0 ≤ x5_1
    ·
     rw [if_pos c4] at H
     have c4b0 : decide (0 ≤ x5_1) = true := decide_eq_true c4
     clear c4
     obtain ⟨y221, hy221⟩ : ∃ y_ : List Int, y_ = (x0_1.set (x5_1 : Int).toNat x1_1) := ⟨_, rfl⟩
     replace H : (laws_markInt64S.l0 k1 y221 (wrap64 (x1_1 + 1)) (wrap64 (x5_1 + 1))) = some (r1, r2) := by first | (rw [hy221]; with_reducible exact H) | (have H2_ := (Option.bind_some _ _).symm.trans H; rw [hy221]; with_reducible exact H2_) | (have H2_ := (Option.bind_some _ _).symm.trans H; with_reducible exact H2_) | with_reducible exact H | (rw [hy221]; exact H) | exact H
     have Ny221 := as0 hy221
     clear hy221
     have H' := as0 H
     clear H
     obtain ⟨Ao6, co6, eo6⟩ := Kd.R_slice HO_0.out
     subst eo6
     have p5 : 0 ≤ (x5_1 : Int) := oa_
     have q5 : (x5_1 : Int) < ((x0_1.length : Int) : Int) := oa_
     obtain ⟨go5, co5, eo5, gb5, gl5, cl5, HG5⟩ := Kd.R_form HO_0.out (by omega)
     (first | cases eo5 | (injection eo5 with ea_ en_ ec_; (first | subst ea_ | (injection ea_ with ea_; subst ea_)); subst ec_; clear en_))
     have GB5 := as0 gb5
     have GG5 := as0 HG5
     clear gb5 gl5 HG5
     have HMgo5 := as0 (show (P0_ go5 ∨ w.heap.size ≤ go5) from (HO_0.out.1 _ rfl))
     obtain ⟨hx5_0, hf5_0⟩ := Kd.R_celln 0 HO_0.out (x5_1 : Int) p5 q5
     replace p5 := eq_true p5
     replace q5 := eq_true q5
     have HP7 := Kd.R_putg HO_0.out (x5_1 : Int) x1_1
     go_wp2_with (first | ((with_reducible refine gate_store (t := 2) (p := 15) rfl ?_); refine store_event (t := 2) (p := 15) (v := ?vo_w8) (w1 := (wr.setCell ⟨go5, (x5_1 : Int).toNat, none⟩ (.int .i64 x1_1))) ?hg ?ho ?hn ?hr ?_; (case ho => rfl); (case hg => rfl); (case hn => rfl); (case hr => first | (go_simp; done) | (go_simp; rfl)); intro w8 hw; have hg : wr.grownBy w8 (some go5) := (by rw [hw]; exact HP7.2); have hp_ : Kd.R (Kd.int .i64) 2 w8 w0.heap.size (fun k_ => (P0_ k_ ∨ w.heap.size ≤ k_)) (.slice (some ⟨go5, 0, none⟩) x0_1.length co6) y221 := (by rw [hw, Ny221.out]; exact HP7.1); clear HP7; have n0_ := as0 (hp_); have n1_ := as0 ((by rw [hw]; exact below_set (HB.out) GB5.out : Below w0.heap.size w0 w8)); have n2_ := as0 (Kept.of_grown (S := (fun k_ => P0_ k_)) hg (by repeat (first | (with_reducible first | exact HK.out | apply Kept.alloc | apply Kept.drewN | apply Kept.drew) | exact HK.out)) (fun k_ e_ => (HO_0.out.1 k_ e_))); clear HO_0; clear HB; clear HK; have HO_0 := n0_; have HB := n1_; have HK := n2_; clear n0_ n1_ n2_; clear hg hw hp_))
     go_roundg k1
     case measure => have := HK1.out; omega
     case rel => exact ⟨(y221), (wrap64 (x1_1 + 1)), (wrap64 (x5_1 + 1)), ea_, ea_, H', ⟨by have := HK1.out; omega⟩, ⟨rs HO_0⟩, ⟨by repeat (first | (with_reducible first | exact HK.out | apply Kept.alloc | apply Kept.drewN | apply Kept.drew) | exact HK.out)⟩, ⟨bs HB⟩⟩
    ·
     rw [if_neg c4] at H
     exact absurd H (by simp)
   ·
    rw [if_neg c3] at H
    have c3b0 : decide (x5_1 < (x0_1.length : Int)) = false := decide_eq_false c3
    clear c3
    simp only [Option.some.injEq, Prod.mk.injEq] at H
    obtain ⟨rfl, rfl⟩ := H
    obtain ⟨Ao9, co9, eo9⟩ := Kd.R_slice HO_0.out
    subst eo9
    go_wp2
    go_ret
    exact ⟨er_, rs HO_0, by repeat (first | (with_reducible first | exact HB.out | apply below_alloc | apply pw_below_drewN | apply below_drew1) | exact HB.out), by repeat (first | (with_reducible first | exact HK.out | apply Kept.alloc | apply Kept.drewN | apply Kept.drew) | exact HK.out)⟩
def laws_toInt64S.l0 : Nat → List Int → List Int → Int → Option (List Int)
 | 0, _, _, _ => none
 | k + 1, x0, x3, x4 => if x4 < (x0.length : Int) then (if 0 ≤ x4 then (if x4 < (x3.length : Int) then (laws_toInt64S.l0 k x0 (x3.set (x4 : Int).toNat (rd x0 x4)) (wrap64 (x4 + 1))) else (none)) else (none)) else (some x3)
def laws_toInt64S.f (k : Nat) (l0 : List Int) : Option (List Int) := if 0 ≤ (l0.length : Int) then (if ((l0.length : Int) : Int).toNat ≤ 35184372088832 then (laws_toInt64S.l0 k l0 (List.replicate ((l0.length : Int) : Int).toNat 0) 0) else (none)) else (none)
set_option maxHeartbeats 8000000 in
set_option maxRecDepth 100000 in
theorem laws_toInt64S.calls (k : Nat) (A0 : Option Addr) (c0 : Nat) (l0 : List Int) (r : List Int) (w : World) (hr0 : Kd.C (Kd.int .i64) w A0 l0.length l0) (hc0 : l0.length ≤ c0) (h : laws_toInt64S.f k l0 = some r) :
  Calls Try.prog 10 #[.slice A0 l0.length c0] w fun e w' => ∃ v0_ : Value, e = .returned (v0_) ∧ Kd.R (Kd.int .i64) 2 w' w.heap.size (fun _ => True) v0_ r ∧ Below w.heap.size w w' := by
 have HR0 := as0 hr0
 have HC0 := as0 hc0
 clear hr0 hc0
 have HB := as0 (Below.refl w.heap.size w)
 have H : (if 0 ≤ (l0.length : Int) then (if ((l0.length : Int) : Int).toNat ≤ 35184372088832 then (laws_toInt64S.l0 k l0 (List.replicate ((l0.length : Int) : Int).toNat 0) 0) else (none)) else (none)) = some r := h
 clear h
 by_cases c2 : 0 ≤ (l0.length : Int)
 ·
  rw [if_pos c2] at H
  have c2b0 := eq_true c2
  have c2b1 : decide (0 ≤ (l0.length : Int)) = true := decide_eq_true c2
  clear c2
  by_cases c3 : ((l0.length : Int) : Int).toNat ≤ 35184372088832
  ·
   rw [if_pos c3] at H
   have c3b0 := eq_true c3
   have c3b1 : decide (((l0.length : Int) : Int).toNat ≤ 35184372088832) = true := decide_eq_true c3
   clear c3
   obtain ⟨y164, hy164⟩ : ∃ y_ : List Int, y_ = (List.replicate ((l0.length : Int) : Int).toNat 0) := ⟨_, rfl⟩
   replace H : (laws_toInt64S.l0 k l0 y164 0) = some r := by first | (rw [hy164]; with_reducible exact H) | (have H2_ := (Option.bind_some _ _).symm.trans H; rw [hy164]; with_reducible exact H2_) | (have H2_ := (Option.bind_some _ _).symm.trans H; with_reducible exact H2_) | with_reducible exact H | (rw [hy164]; exact H) | exact H
   have Ny164 := as0 hy164
   clear hy164
   have H' := as0 H
   clear H
   go_enter Try.func10, Try.ntmps10
   go_wp2_with (first | ((with_reducible refine gate_dst (N := 7) rfl ?_); refine Kd.R_make (Kd.int .i64) _ 2 rfl (N := 7) rfl 22 _ _ rfl (l0.length : Int) rfl rfl Try.underlying22 (.int .i64 0) 8 info2 rfl (by decide) (by omega) 0 (ok := fun _ => True) (okp := fun _ => True) rfl (fun _ hk => hk) trivial (oa_) (Nat.le_trans (Nat.mul_le_mul_right _ (oa_ : (l0.length : Int).toNat ≤ 35184372088832)) (by omega)) (Below.refl _ _) (Nat.le_refl _) ?_; intro v165 w4 ho5 hb hg_ hnew_; clear hg_ hnew_; (first | rw [← Ny164.out] at ho5 | (simp only [Int.reduceToNat] at ho5; rw [← Ny164.out] at ho5)); have n0_ := as0 (Kd.R_lower ho5 (below_size (bs HB))); have n1_ := as0 (below_step (bs HB) hb); clear HB; have HO166 := n0_; have HB := n1_; clear n0_ n1_; clear hb ho5))
   go_loopg [4] k (fun kq v4 w' => ∃ (x3_1 : List Int) (x4_1 : Int), v4 = .int .i64 x4_1 ∧ Aside0 (laws_toInt64S.l0 kq l0 x3_1 x4_1 = some r) ∧ Aside0 (kq ≤ k) ∧ Aside0 (Kd.R (Kd.int .i64) 2 w' w.heap.size (fun _ => True) v165 x3_1) ∧ Aside0 (Below w.heap.size w w'))
   case atStart => exact ⟨(y164), (0), ea_, H', ⟨Nat.le_refl _⟩, ⟨rs HO166⟩, ⟨bs HB⟩⟩
   case round =>
    clear H'
    try clear c1
    try clear c2
    try clear c2b0
    try clear c2b1
    try clear p2
    try clear c3
    try clear c3b0
    try clear c3b1
    obtain ⟨x3_1, x4_1, rfl, HA, HK1, HO_3, HB⟩ := hrel
    cases gk with
    | zero => exact absurd HA.out (by simp [laws_toInt64S.l0])
    | succ k1 =>
     have H := HA.out
     clear HA
     simp only [laws_toInt64S.l0] at H
     by_cases c6 : x4_1 < (l0.length : Int)
     ·
      rw [if_pos c6] at H
      have c6b0 : decide (x4_1 < (l0.length : Int)) = true := decide_eq_true c6
      clear c6
      by_cases c7 : 0 ≤ x4_1
      ·
       rw [if_pos c7] at H
       have c7b0 : decide (0 ≤ x4_1) = true := decide_eq_true c7
       clear c7
       by_cases c8 : x4_1 < (x3_1.length : Int)
       ·
        rw [if_pos c8] at H
        have c8b0 : decide (x4_1 < (x3_1.length : Int)) = true := decide_eq_true c8
        clear c8
        obtain ⟨y168, hy168⟩ : ∃ y_ : List Int, y_ = (x3_1.set (x4_1 : Int).toNat (rd l0 x4_1)) := ⟨_, rfl⟩
        replace H : (laws_toInt64S.l0 k1 l0 y168 (wrap64 (x4_1 + 1))) = some r := by first | (rw [hy168]; with_reducible exact H) | (have H2_ := (Option.bind_some _ _).symm.trans H; rw [hy168]; with_reducible exact H2_) | (have H2_ := (Option.bind_some _ _).symm.trans H; with_reducible exact H2_) | with_reducible exact H | (rw [hy168]; exact H) | exact H
        have Ny168 := as0 hy168
        clear hy168
        have H' := as0 H
        clear H
        have p167 : 0 ≤ (x4_1 : Int) := oa_
        have q167 : x4_1 < (l0.length : Int) := oa_
        obtain ⟨ad167, e167, hx167_0⟩ := Kd.at_int HR0.out x4_1 p167 q167
        cases e167
        replace hx167_0 := (HB.out.cell (World.block_lt_of_cell? w _ hx167_0)).trans hx167_0
        replace p167 := eq_true p167
        replace q167 := eq_true q167
        have p9 : 0 ≤ (x4_1 : Int) := oa_
        have q9 : (x4_1 : Int) < ((x3_1.length : Int) : Int) := oa_
        obtain ⟨go9, co9, eo9, gb9, gl9, cl9, HG9⟩ := Kd.R_form HO_3.out (by omega)
        (first | cases eo9 | (injection eo9 with ea_ en_ ec_; (first | subst ea_ | (injection ea_ with ea_; subst ea_)); subst ec_; clear en_))
        have GB9 := as0 gb9
        have GG9 := as0 HG9
        clear gb9 gl9 HG9
        obtain ⟨hx9_0, hf9_0⟩ := Kd.R_celln 0 HO_3.out (x4_1 : Int) p9 q9
        replace p9 := eq_true p9
        replace q9 := eq_true q9
        have HP10 := Kd.R_putg HO_3.out (x4_1 : Int) (rd l0 x4_1)
        go_wp2_with (first | ((with_reducible refine gate_store (t := 2) (p := 20) rfl ?_); refine store_event (t := 2) (p := 20) (v := ?vo_w11) (w1 := (wr.setCell ⟨go9, (x4_1 : Int).toNat, none⟩ (.int .i64 (rd l0 x4_1)))) ?hg ?ho ?hn ?hr ?_; (case ho => rfl); (case hg => rfl); (case hn => rfl); (case hr => first | (go_simp; done) | (go_simp; rfl)); intro w11 hw; have hg : wr.grownBy w11 (some go9) := (by rw [hw]; exact HP10.2); have hp_ : Kd.R (Kd.int .i64) 2 w11 w.heap.size (fun _ => True) (.slice (some ⟨go9, 0, none⟩) x3_1.length co9) y168 := (by rw [hw, Ny168.out]; exact HP10.1); clear HP10; have n0_ := as0 (hp_); have n1_ := as0 ((by rw [hw]; exact below_set (HB.out) GB9.out : Below w.heap.size w w11)); clear HO_3; clear HB; have HO_3 := n0_; have HB := n1_; clear n0_ n1_; clear hg hw hp_))
        go_roundg k1
        case measure => have := HK1.out; omega
        case rel => exact ⟨(y168), (wrap64 (x4_1 + 1)), ea_, H', ⟨by have := HK1.out; omega⟩, ⟨rs HO_3⟩, ⟨bs HB⟩⟩
       ·
        rw [if_neg c8] at H
        exact absurd H (by simp)
      ·
       rw [if_neg c7] at H
       exact absurd H (by simp)
     ·
      rw [if_neg c6] at H
      have c6b0 : decide (x4_1 < (l0.length : Int)) = false := decide_eq_false c6
      clear c6
      obtain rfl := Option.some.inj H
      go_wp2
      go_ret
      exact ⟨_, er_, rs HO_3, bs HB⟩
  ·
   rw [if_neg c3] at H
   exact absurd H (by simp)
 ·
  rw [if_neg c2] at H
  exact absurd H (by simp)
end Go.Proofs.Ytlmolloallhclaa.H
set_option linter.unusedVariables false
set_option linter.unusedSimpArgs false
namespace Go.Proofs.Ytlmolloallhclaa.H
open Go.RowKit Go.Proofs.YtlmolloallhclaaW.PrintWords Go.Proofs.YtlmolloallhclaaW.PrintLast Go.Proofs.Ytlmolloallhclaa.Num
theorem rd_nat (l : List Int) (i : Nat) : rd l (i : Int) = l.getD i 0 := by simp [rd]
theorem rd_lt (l : List Int) (i : Nat) (h : i < l.length) : rd l (i : Int) = l[i] := by simp [rd, h]
theorem wn {i : Nat} (h : i ≤ 1000000000000) : wrap64 ((i : Int) + 1) = ((i + 1 : Nat) : Int) := by rw [w64 (by omega) (by omega)]; omega
theorem toI_loop (l : List Int) (hl : l.length ≤ 1000000000) (d : Nat) : ∀ (k i : Nat) (acc : List Int), i + d = l.length → acc.length = l.length → acc.take i = l.take i → d < k → laws_toInt64S.l0 k l acc (i : Int) = some l := by
 induction d with
 | zero =>
  intro k i acc h1 h2 h3 hk
  obtain ⟨k, rfl⟩ : ∃ m, k = m + 1 := ⟨k - 1, by omega⟩
  simp only [laws_toInt64S.l0]
  rw [if_neg (by omega)]
  have : acc = l := by
   have e1 : acc.take i = acc := List.take_of_length_le (by omega)
   have e2 : l.take i = l := List.take_of_length_le (by omega)
   rw [e1, e2] at h3; exact h3
  rw [this]
 | succ d ih =>
  intro k i acc h1 h2 h3 hk
  obtain ⟨k, rfl⟩ : ∃ m, k = m + 1 := ⟨k - 1, by omega⟩
  simp only [laws_toInt64S.l0]
  rw [if_pos (by omega), if_pos (by omega), if_pos (by omega), wn (by omega), rd_lt l i (by omega), Int.toNat_natCast]
  refine ih k (i + 1) _ (by omega) (by simpa using h2) ?_ (by omega)
  rw [List.take_succ_eq_append_getElem (by simp; omega), List.take_succ_eq_append_getElem (by omega), List.getElem_set_self, List.take_set_of_le (Nat.le_refl i), h3]
theorem toI_same (l : List Int) (hl : l.length ≤ 1048576) : ∃ K, ∀ k, K ≤ k → laws_toInt64S.f k l = some l := by
 refine ⟨l.length + 2, fun k hk => ?_⟩
 unfold laws_toInt64S.f
 rw [if_pos (by omega), if_pos (by omega)]
 exact toI_loop l (by omega) l.length k 0 _ (by omega) (by simp) (by simp) (by omega)
theorem eqI_loop (l : List Int) (hl : l.length ≤ 1000000000) (d : Nat) : ∀ (k i : Nat), i + d = l.length → d < k → laws_eqInt64S.l0 k l l (i : Int) = some true := by
 induction d with
 | zero =>
  intro k i h1 hk
  obtain ⟨k, rfl⟩ : ∃ m, k = m + 1 := ⟨k - 1, by omega⟩
  simp only [laws_eqInt64S.l0]
  rw [if_neg (by omega)]
 | succ d ih =>
  intro k i h1 hk
  obtain ⟨k, rfl⟩ : ∃ m, k = m + 1 := ⟨k - 1, by omega⟩
  simp only [laws_eqInt64S.l0]
  rw [if_pos (by omega), if_pos (by omega), if_pos (by omega), if_pos trivial, wn (by omega)]
  exact ih k (i + 1) (by omega) (by omega)
theorem eqI_same (l : List Int) (hl : l.length ≤ 2000000) : ∃ K, ∀ k, K ≤ k → laws_eqInt64S.f k l l = some true := by
 refine ⟨l.length + 2, fun k hk => ?_⟩
 unfold laws_eqInt64S.f
 rw [if_pos rfl]
 exact eqI_loop l (by omega) l.length k 0 (by omega) (by omega)
def up (n : Int) : Nat → List Int
 | 0 => []
 | d + 1 => n :: up (n + 1) d
theorem up_len : ∀ (d : Nat) (n : Int), (up n d).length = d
 | 0, _ => rfl
 | d + 1, n => by simp [up, up_len d]
theorem mark_loop (d : Nat) : ∀ (k i : Nat) (l : List Int) (n : Int), i + d = l.length → l.length ≤ 1000000000 → 0 ≤ n → n + d ≤ 1000000000000 → d < k → laws_markInt64S.l0 k l n (i : Int) = some (n + d, l.take i ++ up n d) := by
 induction d with
 | zero =>
  intro k i l n h1 h2 h3 h4 hk
  obtain ⟨k, rfl⟩ : ∃ m, k = m + 1 := ⟨k - 1, by omega⟩
  simp only [laws_markInt64S.l0]
  rw [if_neg (by omega), List.take_of_length_le (by omega)]
  simp [up]
 | succ d ih =>
  intro k i l n h1 h2 h3 h4 hk
  obtain ⟨k, rfl⟩ : ∃ m, k = m + 1 := ⟨k - 1, by omega⟩
  simp only [laws_markInt64S.l0]
  have hw : wrap64 (n + 1) = n + 1 := w64 (by omega) (by omega)
  rw [if_pos (by omega), if_pos (by omega), wn (by omega), Int.toNat_natCast, hw]
  rw [ih k (i + 1) _ (n + 1) (by simp; omega) (by simpa using h2) (by omega) (by omega) (by omega)]
  rw [List.take_succ_eq_append_getElem (by simp; omega), List.getElem_set_self, List.take_set_of_le (Nat.le_refl i)]
  simp only [up, List.append_assoc, List.cons_append, List.nil_append]
  congr 2
  omega
theorem mark_up (l : List Int) (hl : l.length ≤ 2000000) (n : Int) (h0 : 0 ≤ n) (h1 : n ≤ 100000000) : ∃ K, ∀ k, K ≤ k → laws_markInt64S.f k l n = some (n + l.length, up n l.length) := by
 refine ⟨l.length + 2, fun k hk => ?_⟩
 unfold laws_markInt64S.f
 have := mark_loop l.length k 0 l n (by omega) (by omega) h0 (by omega) (by omega)
 simpa using this
theorem up_get : ∀ (d i : Nat) (n : Int) (h : i < d), (up n d)[i]'(by rw [up_len]; exact h) = n + i
 | d + 1, 0, n, _ => by simp [up]
 | d + 1, i + 1, n, h => by simp only [up, List.getElem_cons_succ]; rw [up_get d i (n + 1) (by omega)]; omega
theorem held_loop (m : Nat) (n0 : Int) (hm : m ≤ 1000000000) (h0 : 0 ≤ n0) (hb : n0 ≤ 1000000000) (d : Nat) : ∀ (k i : Nat), i + d = m → d < k → laws_heldInt64S.l0 k (up n0 m) (n0 + i) (i : Int) = some (n0 + m) := by
 induction d with
 | zero =>
  intro k i h1 hk
  obtain ⟨k, rfl⟩ : ∃ m, k = m + 1 := ⟨k - 1, by omega⟩
  simp only [laws_heldInt64S.l0]
  rw [if_neg (by rw [up_len]; omega)]
  congr 2; omega
 | succ d ih =>
  intro k i h1 hk
  obtain ⟨k, rfl⟩ : ∃ m, k = m + 1 := ⟨k - 1, by omega⟩
  simp only [laws_heldInt64S.l0]
  have hw : wrap64 (n0 + i + 1) = n0 + ((i + 1 : Nat) : Int) := by rw [w64 (by omega) (by omega)]; omega
  rw [if_pos (by rw [up_len]; omega), if_pos (by omega), rd_lt _ _ (by rw [up_len]; omega), up_get _ _ _ (by omega), if_pos rfl, wn (by omega), hw]
  exact ih k (i + 1) (by omega) (by omega)
theorem held_up (m : Nat) (hm : m ≤ 2000000) (n : Int) (h0 : 0 ≤ n) (h1 : n ≤ 100000000) : ∃ K, ∀ k, K ≤ k → laws_heldInt64S.f k (up n m) n = some (n + m) := by
 refine ⟨m + 2, fun k hk => ?_⟩
 unfold laws_heldInt64S.f
 have := held_loop m n (by omega) h0 (by omega) m k 0 (by omega) (by omega)
 simpa using this
end Go.Proofs.Ytlmolloallhclaa.H
namespace Go.Proofs.Ytlmolloallhclaa.H
open Go.RowKit Go.Proofs.YtlmolloallhclaaW.PrintWords Go.Proofs.YtlmolloallhclaaW.PrintLast Go.Proofs.YtlmolloallhclaaW.PrintMore
attribute [local go_sem] max2_int min2_int max_two min_two max_three min_three max_four min_four   -- for this text's walks alone
set_option linter.unusedVariables false
set_option linter.unusedSimpArgs false
def impl_within.f (a0 : Int) (a1 : Int) (a2 : Int) : Option (Bool) := if a1 ≤ a0 then (some (decide (a0 ≤ a2))) else (some false)
set_option maxHeartbeats 8000000 in
set_option maxRecDepth 100000 in
theorem impl_within.calls (a0 : Int) (a1 : Int) (a2 : Int) (r : Bool) (w : World) (h : impl_within.f a0 a1 a2 = some r) :
  Calls Try.prog 114 #[.int .i64 a0, .int .i64 a1, .int .i64 a2] w fun e w' => e = .returned (.bool r) ∧ Drawn0 w w' := by
 have H : (if a1 ≤ a0 then (some (decide (a0 ≤ a2))) else (some false)) = some r := h
 clear h
 by_cases c4 : a1 ≤ a0
 ·
  rw [if_pos c4] at H
  have c4b0 : decide (a1 ≤ a0) = true := decide_eq_true c4
  clear c4
  obtain rfl := Option.some.inj H
  go_enter Try.func114, Try.ntmps114
  go_wp2
  go_ret
  exact ⟨ea_, dr_⟩
 ·
  rw [if_neg c4] at H
  have c4b0 : decide (a1 ≤ a0) = false := decide_eq_false c4
  clear c4
  obtain rfl := Option.some.inj H
  go_enter Try.func114, Try.ntmps114
  go_wp2
  go_ret
  exact ⟨ea_, dr_⟩
def impl_IsPrime.l0 : Nat → Int → Int → Option (Bool)
 | 0, _, _ => none
 | k + 1, x0, x3 => if (wrap64 (x3 * x3)) ≤ x0 then (if x3 = 0 then (none) else (if (Int.tmod x0 x3) = 0 then (some false) else (impl_IsPrime.l0 k x0 (wrap64 (x3 + 1))))) else (some true)
def impl_IsPrime.f (k : Nat) (a0 : Int) : Option (Bool) := (impl_within.f a0 2 10007).bind fun t169 => (if t169 = true then (impl_IsPrime.l0 k a0 2) else (some false))
set_option maxHeartbeats 8000000 in
set_option maxRecDepth 100000 in
theorem impl_IsPrime.calls (k : Nat) (a0 : Int) (r : Bool) (w : World) (h : impl_IsPrime.f k a0 = some r) :
  Calls Try.prog 86 #[.int .i64 a0] w fun e w' => e = .returned (.bool r) ∧ Drawn0 w w' := by
 have H : ((impl_within.f a0 2 10007).bind fun t169 => (if t169 = true then (impl_IsPrime.l0 k a0 2) else (some false))) = some r := h
 clear h
 replace H := Option.bind_eq_some_iff.mp H
 obtain ⟨t169, A20, H⟩ := H
 have A2 := as0 A20
 clear A20
 by_cases c3 : t169 = true
 ·
  subst c3
  have H1 : (impl_IsPrime.l0 k a0 2) = some r := by rw [if_pos rfl] at H; exact H
  clear H
  have H := H1
  clear H1
  have H' := as0 H
  clear H
  go_enter Try.func86, Try.ntmps86
  go_wp2_with (first | ((with_reducible refine gate_callee (f := 114) rfl ?_); refine goesM_ (some 5) rfl rfl Try.func114 #[.int .i64 a0, .int .i64 2, .int .i64 10007] rfl ?_; (with_reducible refine (impl_within.calls a0 2 10007 true _ A2.out).mono ?_); rintro e w' ⟨rfl, ⟨nd, rfl⟩⟩; refine ⟨_, rfl, ?_⟩))
  go_loopg [3] k (fun kq v3 w' => ∃ (x3_1 : Int), v3 = .int .i64 x3_1 ∧ Aside0 (impl_IsPrime.l0 kq a0 x3_1 = some r) ∧ Aside0 (kq ≤ k) ∧ Drawn0 w w')
  case atStart => exact ⟨(2), ea_, H', ⟨Nat.le_refl _⟩, dr_⟩
  case round =>
   clear H'
   try clear c1
   try clear p2
   try clear c3
   obtain ⟨x3_1, rfl, HA, HK1, ⟨m1, rfl⟩⟩ := hrel
   cases gk with
   | zero => exact absurd HA.out (by simp [impl_IsPrime.l0])
   | succ k1 =>
    have H := HA.out
    clear HA
    simp only [impl_IsPrime.l0] at H
    by_cases c4 : (wrap64 (x3_1 * x3_1)) ≤ a0
    ·
     rw [if_pos c4] at H
     have c4b0 : decide ((wrap64 (x3_1 * x3_1)) ≤ a0) = true := decide_eq_true c4
     clear c4
     by_cases c5 : x3_1 = 0
     ·
      rw [if_pos c5] at H
      exact absurd H (by simp)
     ·
      rw [if_neg c5] at H
      have c5b0 : (x3_1 == 0) = false := beq_eq_false_iff_ne.mpr c5
      have c5b1 : (x3_1 != 0) = true := bne_iff_ne.mpr c5
      by_cases c6 : (Int.tmod a0 x3_1) = 0
      ·
       rw [if_pos c6] at H
       have c6b0 : ((Int.tmod a0 x3_1) == 0) = true := beq_iff_eq.mpr c6
       have c6b1 : ((Int.tmod a0 x3_1) != 0) = false := bne_eq_false_iff_eq.mpr c6
       clear c6
       obtain rfl := Option.some.inj H
       go_wp2
       go_ret
       exact ⟨ea_, dr_⟩
      ·
       rw [if_neg c6] at H
       have c6b0 : ((Int.tmod a0 x3_1) == 0) = false := beq_eq_false_iff_ne.mpr c6
       have c6b1 : ((Int.tmod a0 x3_1) != 0) = true := bne_iff_ne.mpr c6
       have H' := as0 H
       clear H
       go_wp2
       go_roundg k1
       case measure => have := HK1.out; omega
       case rel => exact ⟨(wrap64 (x3_1 + 1)), ea_, H', ⟨by have := HK1.out; omega⟩, dr_⟩
    ·
     rw [if_neg c4] at H
     have c4b0 : decide ((wrap64 (x3_1 * x3_1)) ≤ a0) = false := decide_eq_false c4
     clear c4
     obtain rfl := Option.some.inj H
     go_wp2
     go_ret
     exact ⟨ea_, dr_⟩
 ·
  replace c3 := Bool.eq_false_iff.mpr c3
  subst c3
  have H1 : (some false) = some r := by rw [if_neg (show ¬ (false = true) by decide)] at H; exact H
  clear H
  have H := H1
  clear H1
  obtain rfl := Option.some.inj H
  go_enter Try.func86, Try.ntmps86
  go_wp2_with (first | ((with_reducible refine gate_callee (f := 114) rfl ?_); refine goesM_ (some 5) rfl rfl Try.func114 #[.int .i64 a0, .int .i64 2, .int .i64 10007] rfl ?_; (with_reducible refine (impl_within.calls a0 2 10007 false _ A2.out).mono ?_); rintro e w' ⟨rfl, ⟨nd, rfl⟩⟩; refine ⟨_, rfl, ?_⟩))
  go_ret
  exact ⟨ea_, dr_⟩
def impl_field_has.f (a0 : Int) (a1 : Int) : Option (Bool) := if a1 ≥ 0 then (some (decide (a1 < a0))) else (some false)
set_option maxHeartbeats 8000000 in
set_option maxRecDepth 100000 in
theorem impl_field_has.calls (a0 : Int) (a1 : Int) (r : Bool) (w : World) (h : impl_field_has.f a0 a1 = some r) :
  Calls Try.prog 78 #[.int .i64 a0, .int .i64 a1] w fun e w' => e = .returned (.bool r) ∧ Drawn0 w w' := by
 have H : (if a1 ≥ 0 then (some (decide (a1 < a0))) else (some false)) = some r := h
 clear h
 by_cases c3 : a1 ≥ 0
 ·
  rw [if_pos c3] at H
  have c3b0 : decide (0 ≤ a1) = true := decide_eq_true c3
  clear c3
  obtain rfl := Option.some.inj H
  go_enter Try.func78, Try.ntmps78
  go_wp2
  go_ret
  exact ⟨ea_, dr_⟩
 ·
  rw [if_neg c3] at H
  have c3b0 : decide (0 ≤ a1) = false := decide_eq_false c3
  clear c3
  obtain rfl := Option.some.inj H
  go_enter Try.func78, Try.ntmps78
  go_wp2
  go_ret
  exact ⟨ea_, dr_⟩
def Gives (g : Nat) (lb : Array Value) (v : Value) (r : Bool) (w : World) : Prop :=
 ∀ W : World, Below w.heap.size w W → Calls Try.prog g (#[v] ++ lb) W fun e w' => e = .returned (.bool r) ∧ Below W.heap.size W w'
theorem below_next {w W w' : World} (h : Below w.heap.size w W) (k : Below W.heap.size W w') : Below w.heap.size w w' := h.trans (k.mono h.size)
set_option maxHeartbeats 4000000 in
set_option maxRecDepth 100000 in
theorem indexFunc_any (A : Option Addr) (n c : Nat) (q : Nat → Bool) (g : Nat) (lb : Array Value) (eg : ∀ args w, (callFunc g args).run Try.prog w = .ok (.enter g args) w) (w : World)
  (hn : n ≤ 9223372036854775807) (h : ∀ j, j < n → ∃ ad v, A = some ad ∧ w.cell? (ad.add j) = some v ∧ Gives g lb v (q j) w) :
  Calls Try.prog 126 #[.slice A n c, .func (.func g) #[] lb] w fun e w' => (∃ i : Int, e = .returned (.int .i64 i) ∧ (0 ≤ i ↔ ∃ j, j < n ∧ q j = true)) ∧ Below w.heap.size w w' := by
 have HH := as0 h
 clear h
 go_enter Try.func126, Try.ntmps126
 go_wp2
 go_loopg [5, 8] n (fun gg _ s8 wr => ∃ kk : Nat, kk ≤ n ∧ n - kk ≤ gg ∧ s8 = .int .i64 kk ∧ Aside0 (∀ j, j < kk → q j = false) ∧ Aside0 (Below w.heap.size w wr))
 case atStart => exact ⟨0, Nat.zero_le _, by omega, rfl, ⟨fun j hj => absurd hj (Nat.not_lt_zero _)⟩, ⟨Below.refl _ _⟩⟩
 case round =>
  obtain ⟨kk, hkk, hg, rfl, HA, HB⟩ := hrel
  by_cases hlt : kk < n
  ·
   have hltz : (kk : Int) < (n : Int) := by omega
   obtain ⟨ad, v, rfl, hc, hcall⟩ := HH.out kk hlt
   have hcall' := hcall wr HB.out
   have hc' := pw_cell_below HB.out hc
   clear hcall hc
   cases hq : q kk with
   | true =>
    rw [hq] at hcall'
    have Hq := as0 hq
    clear hq HH
    go_wp2_with fail
    refine (hcall').mono ?_
    rintro e w' ⟨rfl, hb⟩
    have HB' := as0 (below_next HB.out hb)
    clear hcall' eg hb HB
    go_wp2
    go_ret
    exact ⟨⟨kk, rfl, by constructor; (intro _; exact ⟨kk, hlt, Hq.out⟩); (intro _; omega)⟩, HB'.out⟩
   | false =>
    rw [hq] at hcall'
    have Hq := as0 hq
    clear hq HH
    go_wp2_with fail
    refine (hcall').mono ?_
    rintro e w' ⟨rfl, hb⟩
    have HB' := as0 (below_next HB.out hb)
    clear hcall' eg hb HB
    go_wp2
    go_roundg (n - (kk + 1))
    case measure => omega
    case rel =>
     refine ⟨kk + 1, by omega, by omega, by go_num, ⟨fun j hj => ?_⟩, HB'⟩
     by_cases e : j = kk
     ·
      subst e; exact Hq.out
     ·
      exact HA.out j (by omega)
  ·
   have hltz : ¬ (kk : Int) < (n : Int) := by omega
   have : kk = n := by omega
   subst this
   go_wp2
   go_ret
   refine ⟨⟨-1, rfl, ?_⟩, HB.out⟩
   constructor
   ·
    intro h; omega
   ·
    rintro ⟨j, hj, hq⟩
    rw [HA.out j hj] at hq
    cases hq
end Go.Proofs.Ytlmolloallhclaa.H
namespace Go.Proofs.Ytlmolloallhclaa.H
open Go.RowKit Go.Proofs.YtlmolloallhclaaW.PrintWords Go.Proofs.YtlmolloallhclaaW.PrintLast Go.Proofs.YtlmolloallhclaaW.PrintMore
attribute [local go_sem] max2_int min2_int max_two min_two max_three min_three max_four min_four   -- for this text's walks alone
set_option linter.unusedVariables false
set_option linter.unusedSimpArgs false
set_option maxHeartbeats 4000000 in
set_option maxRecDepth 100000 in
theorem containsFunc_any (A : Option Addr) (n c : Nat) (q : Nat → Bool) (r : Bool) (hr : r = true ↔ ∃ j, j < n ∧ q j = true) (g : Nat) (lb : Array Value) (eg : ∀ args w, (callFunc g args).run Try.prog w = .ok (.enter g args) w) (w : World)
    (hn : n ≤ 9223372036854775807) (h : ∀ j, j < n → ∃ ad v, A = some ad ∧ w.cell? (ad.add j) = some v ∧ Gives g lb v (q j) w) :
    Calls Try.prog 118 #[.slice A n c, .func (.func g) #[] lb] w fun e w' => e = .returned (.bool r) ∧ Below w.heap.size w w' := by
  have HC := indexFunc_any A n c q g lb eg w hn h
  clear h eg
  have Hr := as0 hr
  clear hr
  cases r with
  | true =>
    have HC' : Calls Try.prog 126 #[.slice A n c, .func (.func g) #[] lb] w fun e w' => (∃ i : Int, e = .returned (.int .i64 i) ∧ 0 ≤ i) ∧ Below w.heap.size w w' :=
      HC.mono fun e w' ⟨⟨i, he, hi⟩, hd⟩ => ⟨⟨i, he, hi.2 (Hr.out.1 rfl)⟩, hd⟩
    clear HC
    go_enter Try.func118, Try.ntmps118
    go_wp2_with (go_at_call 126; refine HC'.mono ?_; rintro e w' ⟨⟨i, rfl, hi⟩, hb⟩)
    go_ret
    exact ⟨rfl, hb⟩
  | false =>
    have HC' : Calls Try.prog 126 #[.slice A n c, .func (.func g) #[] lb] w fun e w' => (∃ i : Int, e = .returned (.int .i64 i) ∧ i < 0) ∧ Below w.heap.size w w' :=
      HC.mono fun e w' ⟨⟨i, he, hi⟩, hd⟩ => ⟨⟨i, he, by
        rcases Int.lt_or_le i 0 with h | h
        · exact h
        · exact absurd (Hr.out.2 (hi.1 h)) (by simp)⟩, hd⟩
    clear HC
    go_enter Try.func118, Try.ntmps118
    go_wp2_with (go_at_call 126; refine HC'.mono ?_; rintro e w' ⟨⟨i, rfl, hi⟩, hb⟩)
    go_ret
    exact ⟨by have hn0 : ¬ 0 ≤ i := by omega
              simp [hn0], hb⟩
end Go.Proofs.Ytlmolloallhclaa.H
namespace Go.Proofs.Ytlmolloallhclaa.H
open Go.RowKit Go.Proofs.YtlmolloallhclaaW.PrintWords Go.Proofs.YtlmolloallhclaaW.PrintLast Go.Proofs.YtlmolloallhclaaW.PrintMore
attribute [local go_sem] max2_int min2_int max_two min_two max_three min_three max_four min_four   -- for this text's walks alone
set_option linter.unusedVariables false
set_option linter.unusedSimpArgs false
set_option maxHeartbeats 4000000 in
set_option maxRecDepth 100000 in
theorem notIs_bound (v : Value) (r : Bool) (g : Nat) (f : Value) (B : Nat) (eg : ∀ args w, (callFunc g args).run Try.prog w = .ok (.enter g args) w) (w : World)
  (hB : w.cell? ⟨B, 0, none⟩ = some (.func (.func g) #[f] #[]))
  (h : ∀ W : World, Below w.heap.size w W → Calls Try.prog g #[f, v] W fun e w' => e = .returned (.bool r) ∧ Drawn0 W w') :
  Gives 119 #[.pointer (some ⟨B, 0, none⟩)] v (!r) w := by
 intro W hW
 have hB' := (hW.cell (p := ⟨B, 0, none⟩) (World.block_lt_of_cell? w _ hB)).trans hB
 have h' := h W hW
 clear h hW hB
 show Calls Try.prog 119 #[v, .pointer (some ⟨B, 0, none⟩)] W _
 go_enter Try.func119, Try.ntmps119
 go_wp2_with fail
 refine h'.mono ?_
 rintro e w' ⟨rfl, ⟨q', rfl⟩⟩
 clear h' eg hB'
 go_wp2
 go_ret
 exact ⟨rfl, (show Drawn0 W _ by repeat (first | exact Drawn0.refl _ | apply Drawn0.step)).below⟩
set_option maxHeartbeats 4000000 in
set_option maxRecDepth 100000 in
theorem areAll_bound (A : Option Addr) (c : Nat) (l : List Int) (p : Int → Bool) (g : Nat) (f : Value) (eg : ∀ args w, (callFunc g args).run Try.prog w = .ok (.enter g args) w) (w : World)
  (hr : Kd.C (Kd.int .i64) w A l.length l)
  (h : ∀ (x : Int) (W : World), Below w.heap.size w W → Calls Try.prog g #[f, .int .i64 x] W fun e w' => e = .returned (.bool (p x)) ∧ Drawn0 W w') :
  Calls Try.prog 101 #[.slice A l.length c, .func (.func g) #[f] #[]] w fun e w' => e = .returned (.bool (l.all p)) ∧ Below w.heap.size w w' := by
 have ec : ∀ args w, (callFunc 119 args).run Try.prog w = .ok (.enter 119 args) w := enters_of Try.func119 (by kernel_rfl) rfl
 have hcell : (w.alloc (.cells #[.func (.func g) #[f] #[]] 71)).cell? ⟨w.heap.size, 0, none⟩ = some (.func (.func g) #[f] #[]) := by simp
 have hb : Below w.heap.size w (w.alloc (.cells #[.func (.func g) #[f] #[]] 71)) := (Below.refl _ w).alloc (Nat.le_refl _) _
 have HC := containsFunc_any A l.length c (fun j => !(p (rd l j))) (!(l.all p)) (by
   rw [Bool.not_eq_true', List.all_eq_false]
   constructor
   ·
    rintro ⟨x, hx, hp⟩
    obtain ⟨j, hj, rfl⟩ := List.getElem_of_mem hx
    exact ⟨j, hj, by simpa [rd, List.getD_eq_getElem?_getD, hj] using hp⟩
   ·
    rintro ⟨j, hj, hp⟩
    exact ⟨l[j], List.getElem_mem hj, by simpa [rd, List.getD_eq_getElem?_getD, hj] using hp⟩) 119 #[.pointer (some ⟨w.heap.size, 0, none⟩)] ec (w.alloc (.cells #[.func (.func g) #[f] #[]] 71)) (Kd.C_max hr)
  (fun j hj => by
   obtain ⟨ad, rfl, hc⟩ := Kd.at_int hr j (by omega) (by omega)
   exact ⟨ad, _, rfl, by simpa using pw_cell_below hb hc, notIs_bound _ (p (rd l j)) g f w.heap.size eg _ hcell fun W hW => h _ W (hb.trans (hW.mono (by simp)))⟩)
 clear h eg hcell ec
 generalize l.all p = r at HC ⊢
 go_enter Try.func101, Try.ntmps101
 go_wp2_with (go_at_call 118; refine HC.mono ?_; rintro e w' ⟨rfl, hb'⟩)
 go_ret
 exact ⟨by simp, hb.trans (hb'.mono (by simp))⟩
def hasB (p x : Int) : Bool := decide (0 ≤ x) && decide (x < p)
theorem has_hasB (p x : Int) (W : World) : Calls Try.prog 78 #[.int .i64 p, .int .i64 x] W fun e w' => e = .returned (.bool (hasB p x)) ∧ Drawn0 W w' :=
 impl_field_has.calls p x (hasB p x) W (by unfold impl_field_has.f hasB; by_cases h : x ≥ 0 <;> simp [h])
def impl_areAll_has.f (l0 : List Int) (a1 : Int) : Option Bool := some (l0.all (hasB a1))
theorem impl_areAll_has.calls (A0 : Option Addr) (c0 : Nat) (l0 : List Int) (a1 : Int) (r : Bool) (w : World) (hr0 : Kd.C (Kd.int .i64) w A0 l0.length l0) (hc0 : l0.length ≤ c0) (h : impl_areAll_has.f l0 a1 = some r) :
  Calls Try.prog 101 #[.slice A0 l0.length c0, .func (.func 78) #[.int .i64 a1] #[]] w fun e w' => e = .returned (.bool r) ∧ Below w.heap.size w w' := by
 obtain rfl := Option.some.inj h
 exact areAll_bound A0 c0 l0 (hasB a1) 78 (.int .i64 a1) (enters_of Try.func78 (by kernel_rfl) rfl) w hr0 (fun x W' _ => has_hasB a1 x W')
end Go.Proofs.Ytlmolloallhclaa.H
namespace Go.Proofs.Ytlmolloallhclaa.H
open Go.RowKit Go.Proofs.YtlmolloallhclaaW.PrintWords Go.Proofs.YtlmolloallhclaaW.PrintLast Go.Proofs.YtlmolloallhclaaW.PrintMore
attribute [local go_sem] max2_int min2_int max_two min_two max_three min_three max_four min_four   -- for this text's walks alone
set_option linter.unusedVariables false
set_option linter.unusedSimpArgs false
def impl_field_mod.f (a0 : Int) (a1 : Int) : Option (Int) := if a0 = 0 then (none) else (some (Int.tmod (wrap64 ((Int.tmod a1 a0) + a0)) a0))
set_option maxHeartbeats 8000000 in
set_option maxRecDepth 100000 in
theorem impl_field_mod.calls (a0 : Int) (a1 : Int) (r : Int) (w : World) (h : impl_field_mod.f a0 a1 = some r) :
  Calls Try.prog 64 #[.int .i64 a0, .int .i64 a1] w fun e w' => e = .returned (.int .i64 r) ∧ Drawn0 w w' := by
 have H : (if a0 = 0 then (none) else (some (Int.tmod (wrap64 ((Int.tmod a1 a0) + a0)) a0))) = some r := h
 clear h
 by_cases c3 : a0 = 0
 ·
  rw [if_pos c3] at H
  exact absurd H (by simp)
 ·
  rw [if_neg c3] at H
  have c3b0 : (a0 == 0) = false := beq_eq_false_iff_ne.mpr c3
  have c3b1 : (a0 != 0) = true := bne_iff_ne.mpr c3
  obtain rfl := Option.some.inj H
  go_enter Try.func64, Try.ntmps64
  go_wp2
  go_ret
  exact ⟨ea_, dr_⟩
end Go.Proofs.Ytlmolloallhclaa.H
namespace Go.Proofs.Ytlmolloallhclaa.H
open Go.RowKit Go.Proofs.YtlmolloallhclaaW.PrintWords Go.Proofs.YtlmolloallhclaaW.PrintLast Go.Proofs.YtlmolloallhclaaW.PrintMore
attribute [local go_sem] max2_int min2_int max_two min_two max_three min_three max_four min_four   -- for this text's walks alone
set_option linter.unusedVariables false
set_option linter.unusedSimpArgs false
set_option maxHeartbeats 4000000 in
set_option maxRecDepth 100000 in
theorem indexFunc2_any (A : Option Addr) (n c : Nat) (q : Nat → Bool) (g : Nat) (lb : Array Value) (eg : ∀ args w, (callFunc g args).run Try.prog w = .ok (.enter g args) w) (w : World)
  (hn : n ≤ 9223372036854775807) (h : ∀ j, j < n → ∃ ad v, A = some ad ∧ w.cell? (ad.add j) = some v ∧ Gives g lb v (q j) w) :
  Calls Try.prog 115 #[.slice A n c, .func (.func g) #[] lb] w fun e w' => (∃ i : Int, e = .returned (.int .i64 i) ∧ (0 ≤ i ↔ ∃ j, j < n ∧ q j = true)) ∧ Below w.heap.size w w' := by
 have HH := as0 h
 clear h
 go_enter Try.func115, Try.ntmps115
 go_wp2
 go_loopg [5, 8] n (fun gg _ s8 wr => ∃ kk : Nat, kk ≤ n ∧ n - kk ≤ gg ∧ s8 = .int .i64 kk ∧ Aside0 (∀ j, j < kk → q j = false) ∧ Aside0 (Below w.heap.size w wr))
 case atStart => exact ⟨0, Nat.zero_le _, by omega, rfl, ⟨fun j hj => absurd hj (Nat.not_lt_zero _)⟩, ⟨Below.refl _ _⟩⟩
 case round =>
  obtain ⟨kk, hkk, hg, rfl, HA, HB⟩ := hrel
  by_cases hlt : kk < n
  ·
   have hltz : (kk : Int) < (n : Int) := by omega
   obtain ⟨ad, v, rfl, hc, hcall⟩ := HH.out kk hlt
   have hcall' := hcall wr HB.out
   have hc' := pw_cell_below HB.out hc
   clear hcall hc
   cases hq : q kk with
   | true =>
    rw [hq] at hcall'
    have Hq := as0 hq
    clear hq HH
    go_wp2_with fail
    refine (hcall').mono ?_
    rintro e w' ⟨rfl, hb⟩
    have HB' := as0 (below_next HB.out hb)
    clear hcall' eg hb HB
    go_wp2
    go_ret
    exact ⟨⟨kk, rfl, by constructor; (intro _; exact ⟨kk, hlt, Hq.out⟩); (intro _; omega)⟩, HB'.out⟩
   | false =>
    rw [hq] at hcall'
    have Hq := as0 hq
    clear hq HH
    go_wp2_with fail
    refine (hcall').mono ?_
    rintro e w' ⟨rfl, hb⟩
    have HB' := as0 (below_next HB.out hb)
    clear hcall' eg hb HB
    go_wp2
    go_roundg (n - (kk + 1))
    case measure => omega
    case rel =>
     refine ⟨kk + 1, by omega, by omega, by go_num, ⟨fun j hj => ?_⟩, HB'⟩
     by_cases e : j = kk
     ·
      subst e; exact Hq.out
     ·
      exact HA.out j (by omega)
  ·
   have hltz : ¬ (kk : Int) < (n : Int) := by omega
   have : kk = n := by omega
   subst this
   go_wp2
   go_ret
   refine ⟨⟨-1, rfl, ?_⟩, HB.out⟩
   constructor
   ·
    intro h; omega
   ·
    rintro ⟨j, hj, hq⟩
    rw [HA.out j hj] at hq
    cases hq
end Go.Proofs.Ytlmolloallhclaa.H
namespace Go.Proofs.Ytlmolloallhclaa.H
open Go.RowKit Go.Proofs.YtlmolloallhclaaW.PrintWords Go.Proofs.YtlmolloallhclaaW.PrintLast Go.Proofs.YtlmolloallhclaaW.PrintMore
attribute [local go_sem] max2_int min2_int max_two min_two max_three min_three max_four min_four   -- for this text's walks alone
set_option linter.unusedVariables false
set_option linter.unusedSimpArgs false
set_option maxHeartbeats 4000000 in
set_option maxRecDepth 100000 in
theorem containsFunc2_any (A : Option Addr) (n c : Nat) (q : Nat → Bool) (r : Bool) (hr : r = true ↔ ∃ j, j < n ∧ q j = true) (g : Nat) (lb : Array Value) (eg : ∀ args w, (callFunc g args).run Try.prog w = .ok (.enter g args) w) (w : World)
    (hn : n ≤ 9223372036854775807) (h : ∀ j, j < n → ∃ ad v, A = some ad ∧ w.cell? (ad.add j) = some v ∧ Gives g lb v (q j) w) :
    Calls Try.prog 112 #[.slice A n c, .func (.func g) #[] lb] w fun e w' => e = .returned (.bool r) ∧ Below w.heap.size w w' := by
  have HC := indexFunc2_any A n c q g lb eg w hn h
  clear h eg
  have Hr := as0 hr
  clear hr
  cases r with
  | true =>
    have HC' : Calls Try.prog 115 #[.slice A n c, .func (.func g) #[] lb] w fun e w' => (∃ i : Int, e = .returned (.int .i64 i) ∧ 0 ≤ i) ∧ Below w.heap.size w w' :=
      HC.mono fun e w' ⟨⟨i, he, hi⟩, hd⟩ => ⟨⟨i, he, hi.2 (Hr.out.1 rfl)⟩, hd⟩
    clear HC
    go_enter Try.func112, Try.ntmps112
    go_wp2_with (go_at_call 115; refine HC'.mono ?_; rintro e w' ⟨⟨i, rfl, hi⟩, hb⟩)
    go_ret
    exact ⟨rfl, hb⟩
  | false =>
    have HC' : Calls Try.prog 115 #[.slice A n c, .func (.func g) #[] lb] w fun e w' => (∃ i : Int, e = .returned (.int .i64 i) ∧ i < 0) ∧ Below w.heap.size w w' :=
      HC.mono fun e w' ⟨⟨i, he, hi⟩, hd⟩ => ⟨⟨i, he, by
        rcases Int.lt_or_le i 0 with h | h
        · exact h
        · exact absurd (Hr.out.2 (hi.1 h)) (by simp)⟩, hd⟩
    clear HC
    go_enter Try.func112, Try.ntmps112
    go_wp2_with (go_at_call 115; refine HC'.mono ?_; rintro e w' ⟨⟨i, rfl, hi⟩, hb⟩)
    go_ret
    exact ⟨by have hn0 : ¬ 0 ≤ i := by omega
              simp [hn0], hb⟩
end Go.Proofs.Ytlmolloallhclaa.H
namespace Go.Proofs.Ytlmolloallhclaa.H
open Go.RowKit Go.Proofs.YtlmolloallhclaaW.PrintWords Go.Proofs.YtlmolloallhclaaW.PrintLast Go.Proofs.YtlmolloallhclaaW.PrintMore
attribute [local go_sem] max2_int min2_int max_two min_two max_three min_three max_four min_four   -- for this text's walks alone
set_option linter.unusedVariables false
set_option linter.unusedSimpArgs false
set_option maxHeartbeats 4000000 in
set_option maxRecDepth 100000 in
theorem notIs2_clos (v : Value) (r : Bool) (g : Nat) (lb : Array Value) (B : Nat) (eg : ∀ args w, (callFunc g args).run Try.prog w = .ok (.enter g args) w) (w : World)
  (hB : w.cell? ⟨B, 0, none⟩ = some (.func (.func g) #[] lb)) (h : Gives g lb v r w) :
  Gives 113 #[.pointer (some ⟨B, 0, none⟩)] v (!r) w := by
 intro W hW
 have hB' := (hW.cell (p := ⟨B, 0, none⟩) (World.block_lt_of_cell? w _ hB)).trans hB
 have h' := h W hW
 clear h hW hB
 show Calls Try.prog 113 #[v, .pointer (some ⟨B, 0, none⟩)] W _
 go_enter Try.func113, Try.ntmps113
 go_wp2_with fail
 refine h'.mono ?_
 rintro e w' ⟨rfl, hb⟩
 clear h' eg hB'
 go_wp2
 go_ret
 exact ⟨rfl, hb⟩
set_option maxHeartbeats 4000000 in
set_option maxRecDepth 100000 in
theorem areAll2_clos (A : Option Addr) (n c : Nat) (q : Nat → Bool) (r : Bool) (hr : r = true ↔ ∀ j, j < n → q j = true) (g : Nat) (lb : Array Value) (eg : ∀ args w, (callFunc g args).run Try.prog w = .ok (.enter g args) w) (w : World)
  (hn : n ≤ 9223372036854775807) (h : ∀ j, j < n → ∃ ad v, A = some ad ∧ w.cell? (ad.add j) = some v ∧ Gives g lb v (q j) w) :
  Calls Try.prog 83 #[.slice A n c, .func (.func g) #[] lb] w fun e w' => e = .returned (.bool r) ∧ Below w.heap.size w w' := by
 have ec : ∀ args w, (callFunc 113 args).run Try.prog w = .ok (.enter 113 args) w := enters_of Try.func113 (by kernel_rfl) rfl
 have hcell : (w.alloc (.cells #[.func (.func g) #[] lb] 75)).cell? ⟨w.heap.size, 0, none⟩ = some (.func (.func g) #[] lb) := by simp
 have hb : Below w.heap.size w (w.alloc (.cells #[.func (.func g) #[] lb] 75)) := (Below.refl _ w).alloc (Nat.le_refl _) _
 have HC := containsFunc2_any A n c (fun j => !(q j)) (!r) (by
   rw [Bool.not_eq_true']
   constructor
   ·
    intro hf
    refine Classical.byContradiction fun hne => ?_
    have : r = true := hr.2 fun j hj => by
     cases hq : q j with
     | true => rfl
     | false => exact absurd ⟨j, hj, by simp [hq]⟩ hne
    rw [this] at hf; cases hf
   ·
    rintro ⟨j, hj, hq⟩
    cases hr' : r with
    | false => rfl
    | true => have := hr.1 hr' j hj; rw [this] at hq; cases hq) 113 #[.pointer (some ⟨w.heap.size, 0, none⟩)] ec (w.alloc (.cells #[.func (.func g) #[] lb] 75)) hn
  (fun j hj => by
   obtain ⟨ad, v, rfl, hc, hg⟩ := h j hj
   exact ⟨ad, v, rfl, pw_cell_below hb hc, notIs2_clos v (q j) g lb w.heap.size eg _ hcell fun W hW => hg W (hb.trans (hW.mono (by simp)))⟩)
 clear h eg hcell ec hr
 go_enter Try.func83, Try.ntmps83
 go_wp2_with (go_at_call 112; refine HC.mono ?_; rintro e w' ⟨rfl, hb'⟩)
 go_ret
 exact ⟨by simp, hb.trans (hb'.mono (by simp))⟩
end Go.Proofs.Ytlmolloallhclaa.H
