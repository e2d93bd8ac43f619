/- Plain laws that the claim of FnRootLists reaches: numbers modulo a prime, lists, and what the printed functions answer. -/
import Derived.Laws.Bits64
import Derived.Laws.BitsLemmas
import Derived.RowKit
import Derived.Test.YthiignohbooelaaYWWords
import Derived.Test.YthiignohbooelaaYWMore
import Derived.Test.YthiignohbooelaaYHx0
import Derived.Test.YthiignohbooelaaMa2
import Derived.Test.YthiignohbooelaaMa1
import Derived.Test.YthiignohbooelaaMa3
import Derived.Test.YthiignohbooelaaMa6
import Derived.Test.YthiignohbooelaaMa7
import Derived.Test.YthiignohbooelaaMa8
import Derived.Test.YthiignohbooelaaMa4
import Derived.Test.YthiignohbooelaaMa5
set_option linter.unusedVariables false
set_option linter.unusedSimpArgs false
namespace Go.Proofs.Ythiignohbooelaa.Num
open Go.RowKit
theorem w64 {x : Int} (h1 : -9223372036854775808 ≤ x) (h2 : x ≤ 9223372036854775807) : wrap64 x = x := by
 unfold wrap64; omega
theorem tmod_nn {a b : Int} (h : 0 ≤ a) : Int.tmod a b = a % b := Int.tmod_eq_emod_of_nonneg h
theorem tmod_lt' {x p : Int} (hp : 0 < p) : Int.tmod x p < p ∧ -p < Int.tmod x p := by
 constructor
 ·
  exact Int.tmod_lt_of_pos x hp
 ·
  have h := Int.tmod_lt_of_pos (-x) hp
  rw [Int.neg_tmod] at h
  omega
theorem md {x p : Int} (hp : 0 < p) (hp2 : p ≤ 1000000000) : Int.tmod (wrap64 (Int.tmod x p + p)) p = x % p := by
 obtain ⟨h1, h2⟩ := tmod_lt' (x := x) hp
 rw [w64 (by omega) (by omega), tmod_nn (by omega), Int.tmod_def]
 have : x - p * x.tdiv p + p = x + p * (1 - x.tdiv p) := by
  rw [Int.mul_sub]; omega
 rw [this, Int.add_mul_emod_self_left]
theorem emod_bd {x p : Int} (hp : 0 < p) : 0 ≤ x % p ∧ x % p < p := ⟨Int.emod_nonneg _ (by omega), Int.emod_lt_of_pos _ hp⟩
theorem mul_bd {x y a b : Int} (hx0 : 0 ≤ x) (hx : x ≤ a) (hy0 : 0 ≤ y) (hy : y ≤ b) : 0 ≤ x * y ∧ x * y ≤ a * b :=
 ⟨Int.mul_nonneg hx0 hy0, Int.mul_le_mul hx hy hy0 (by omega)⟩
theorem em_l (a b p : Int) : a % p * b % p = a * b % p := by rw [Int.mul_emod, Int.emod_emod, ← Int.mul_emod]
theorem ea_l (a b p : Int) : (a % p + b) % p = (a + b) % p := Int.emod_add_emod _ _ _
theorem ea_r (a b p : Int) : (a + b % p) % p = (a + b) % p := Int.add_emod_emod _ _ _
def Pr (p : Nat) : Prop := 2 ≤ p ∧ ∀ d, d ∣ p → d = 1 ∨ d = p
theorem Pr.of_trial {p : Nat} (h2 : 2 ≤ p) (h : ∀ d, 2 ≤ d → d * d ≤ p → p % d ≠ 0) : Pr p := by
 refine ⟨h2, fun d hd => ?_⟩
 obtain ⟨e, he⟩ := hd
 have hd0 : 0 < d := by rcases Nat.eq_zero_or_pos d with h0 | h0; (subst h0; simp at he; omega); exact h0
 have he0 : 0 < e := by rcases Nat.eq_zero_or_pos e with h0 | h0; (subst h0; simp at he; omega); exact h0
 rcases Nat.lt_or_ge d 2 with h1 | h1
 ·
  left; omega
 rcases Nat.lt_or_ge e 2 with h3 | h3
 ·
  right
  have : e = 1 := by omega
  subst this; simpa using he.symm
 ·
  exfalso
  rcases Nat.le_total d e with hle | hle
  ·
   refine h d h1 ?_ ?_
   ·
    rw [he]; exact Nat.mul_le_mul_left d hle
   ·
    rw [he]; exact Nat.mul_mod_right d e
  ·
   refine h e h3 ?_ ?_
   ·
    rw [he]; exact Nat.mul_le_mul_right e hle
   ·
    rw [he]; exact Nat.mul_mod_left d e
theorem Pr.cop {p a : Nat} (hp : Pr p) (ha : ¬ p ∣ a) : Nat.Coprime p a := by
 rcases hp.2 _ (Nat.gcd_dvd_left p a) with h | h
 ·
  exact h
 ·
  exact absurd (h ▸ Nat.gcd_dvd_right p a) ha
theorem Pr.euclid {p a b : Nat} (hp : Pr p) (h : p ∣ a * b) : p ∣ a ∨ p ∣ b := by
 by_cases ha : p ∣ a
 ·
  exact .inl ha
 ·
  exact .inr ((hp.cop ha).dvd_of_dvd_mul_left h)
theorem Pr.pow {p a : Nat} (hp : Pr p) (ha : ¬ p ∣ a) : ∀ n, ¬ p ∣ a ^ n
 | 0 => fun h => by
  have h1 := Nat.le_of_dvd (by simp) h
  have := hp.1
  simp only [Nat.pow_zero] at h1
  omega
 | n + 1 => fun h => by
  rw [Nat.pow_succ] at h
  rcases hp.euclid h with h | h
  ·
   exact Pr.pow hp ha n h
  ·
   exact ha h
def ch : Nat → Nat → Nat
 | _, 0 => 1
 | 0, _ + 1 => 0
 | n + 1, k + 1 => ch n k + ch n (k + 1)
theorem ch_gt : ∀ n k, n < k → ch n k = 0
 | 0, k + 1, _ => by simp [ch]
 | n + 1, k + 1, h => by simp [ch, ch_gt n k (by omega), ch_gt n (k + 1) (by omega)]
theorem ch_self : ∀ n, ch n n = 1
 | 0 => by simp [ch]
 | n + 1 => by simp [ch, ch_self n, ch_gt n (n + 1) (by omega)]
theorem ch_mul : ∀ n k, (k + 1) * ch (n + 1) (k + 1) = (n + 1) * ch n k
 | 0, 0 => by simp [ch]
 | 0, k + 1 => by simp [ch]
 | n + 1, 0 => by
  have h := ch_mul n 0
  have h0 : ch n 0 = 1 := by cases n <;> simp [ch]
  have h00 : ch (n+1) 0 = 1 := by simp [ch]
  have e : ch (n + 1 + 1) (0 + 1) = ch (n + 1) 0 + ch (n + 1) (0 + 1) := by simp [ch]
  rw [e, h00]
  rw [h0] at h
  omega
 | n + 1, k + 1 => by
  have h1 := ch_mul n k
  have h2 := ch_mul n (k + 1)
  have e1 : ch (n + 1 + 1) (k + 1 + 1) = ch (n + 1) (k + 1) + ch (n + 1) (k + 1 + 1) := by simp [ch]
  have e2 : ch (n + 1) (k + 1) = ch n k + ch n (k + 1) := by simp [ch]
  rw [e1, Nat.mul_add]
  rw [h2]
  have : (k + 1 + 1) * ch (n + 1) (k + 1) = ch (n + 1) (k + 1) + (k + 1) * ch (n + 1) (k + 1) := by
   rw [Nat.add_mul (k+1) 1, Nat.one_mul]; omega
  rw [this, h1]
  have e3 : (n + 1 + 1) * ch (n + 1) (k + 1) = (n + 1) * ch (n + 1) (k + 1) + ch (n + 1) (k + 1) := by rw [Nat.add_mul, Nat.one_mul]
  rw [e3, e2, Nat.mul_add]
  omega
def sm (f : Nat → Nat) : Nat → Nat
 | 0 => 0
 | n + 1 => sm f n + f n
theorem sm_head (f : Nat → Nat) : ∀ n, sm f (n + 1) = f 0 + sm (fun k => f (k + 1)) n
 | 0 => by simp [sm]
 | n + 1 => by
  have h := sm_head f n
  rw [show sm f (n + 1 + 1) = sm f (n + 1) + f (n + 1) from rfl, h]
  simp only [sm]; omega
theorem sm_add (f g : Nat → Nat) : ∀ n, sm (fun k => f k + g k) n = sm f n + sm g n
 | 0 => rfl
 | n + 1 => by simp only [sm, sm_add f g n]; omega
theorem sm_mul (a : Nat) (f : Nat → Nat) : ∀ n, sm (fun k => a * f k) n = a * sm f n
 | 0 => rfl
 | n + 1 => by simp only [sm, sm_mul a f n]; rw [Nat.mul_add]
theorem sm_congr {f g : Nat → Nat} (h : ∀ k, f k = g k) (n : Nat) : sm f n = sm g n := by
 have : f = g := funext h
 rw [this]
theorem binom (a : Nat) : ∀ n, (a + 1) ^ n = sm (fun k => ch n k * a ^ k) (n + 1)
 | 0 => by simp [sm, ch]
 | n + 1 => by
  rw [Nat.pow_succ, binom a n, sm_head (fun k => ch (n + 1) k * a ^ k) (n + 1)]
  have e : sm (fun k => ch (n + 1) (k + 1) * a ^ (k + 1)) (n + 1) = sm (fun k => a * (ch n k * a ^ k)) (n + 1) + sm (fun k => ch n (k + 1) * a ^ (k + 1)) (n + 1) := by
   rw [← sm_add]
   refine sm_congr (fun k => ?_) _
   simp only [ch]
   rw [Nat.add_mul, Nat.pow_succ]
   have : ch n k * (a ^ k * a) = a * (ch n k * a ^ k) := by
    rw [← Nat.mul_assoc, Nat.mul_comm]
   rw [this]
  rw [e, sm_mul]
  have e2 : sm (fun k => ch n (k + 1) * a ^ (k + 1)) (n + 1) = sm (fun k => ch n (k + 1) * a ^ (k + 1)) n := by
   simp only [sm]; rw [ch_gt n (n + 1) (by omega)]; simp
  rw [e2]
  have e3 := sm_head (fun k => ch n k * a ^ k) n
  have h0 : ch n 0 = 1 := by cases n <;> simp [ch]
  have h00 : ch (n+1) 0 = 1 := by simp [ch]
  rw [h0] at e3
  rw [h00]
  simp only [Nat.pow_zero, Nat.mul_one] at e3 ⊢
  rw [Nat.mul_add, Nat.mul_one, Nat.mul_comm a]
  omega
theorem sm_dvd {p : Nat} (f : Nat → Nat) : ∀ n, (∀ k, k < n → p ∣ f k) → p ∣ sm f n
 | 0, _ => ⟨0, rfl⟩
 | n + 1, h => Nat.dvd_add (sm_dvd f n fun k hk => h k (by omega)) (h n (by omega))
theorem Pr.ch_dvd {p k : Nat} (hp : Pr p) (h0 : 0 < k) (h1 : k < p) : p ∣ ch p k := by
 obtain ⟨q, rfl⟩ : ∃ q, p = q + 1 := ⟨p - 1, by omega⟩
 obtain ⟨j, rfl⟩ : ∃ j, k = j + 1 := ⟨k - 1, by omega⟩
 have h := ch_mul q j
 have hd : (q + 1) ∣ (j + 1) * ch (q + 1) (j + 1) := ⟨ch q j, h⟩
 rcases hp.euclid hd with h' | h'
 ·
  have := Nat.le_of_dvd (by omega) h'; omega
 ·
  exact h'
theorem Pr.fermat {p : Nat} (hp : Pr p) : ∀ a, a ^ p % p = a % p
 | 0 => by rw [Nat.zero_pow (by have := hp.1; omega)]
 | a + 1 => by
  have ih := Pr.fermat hp a
  rw [binom a p, sm_head]
  obtain ⟨q, hq⟩ : ∃ q, p = q + 1 := ⟨p - 1, by have := hp.1; omega⟩
  have h0 : ch p 0 * a ^ 0 = 1 := by rw [hq]; simp [ch]
  have e : sm (fun k => ch p (k + 1) * a ^ (k + 1)) p = sm (fun k => ch p (k + 1) * a ^ (k + 1)) q + a ^ p := by
   rw [hq]; simp only [sm]; rw [ch_self, Nat.one_mul]
  rw [h0, e]
  have hd : p ∣ sm (fun k => ch p (k + 1) * a ^ (k + 1)) q :=
   sm_dvd _ q fun k hk => Nat.dvd_trans (hp.ch_dvd (by omega) (by omega)) (Nat.dvd_mul_right _ _)
  obtain ⟨c, hc⟩ := hd
  rw [hc]
  rw [show 1 + (p * c + a ^ p) = (1 + a ^ p) + p * c by omega, Nat.add_mul_mod_self_left, Nat.add_mod, ih, ← Nat.add_mod, Nat.add_comm]
theorem dvd_sub_of_mod {p a b : Nat} (hle : a ≤ b) (h : a % p = b % p) : p ∣ b - a := by
 refine ⟨b / p - a / p, ?_⟩
 have h1 := Nat.div_add_mod a p
 have h2 := Nat.div_add_mod b p
 rw [Nat.mul_sub]
 omega
theorem Pr.fermat1 {p a : Nat} (hp : Pr p) (ha : ¬ p ∣ a) : a ^ (p - 1) % p = 1 := by
 have h := hp.fermat a
 obtain ⟨q, hq⟩ : ∃ q, p = q + 1 := ⟨p - 1, by have := hp.1; omega⟩
 have ha0 : 1 ≤ a ^ q := Nat.one_le_iff_ne_zero.mpr (by
  intro h0
  have : a = 0 := by
   rcases Nat.eq_zero_or_pos a with h1 | h1
   ·
    exact h1
   ·
    have := Nat.pow_pos (n := q) h1; omega
  exact ha (this ▸ ⟨0, rfl⟩))
 have hd : p ∣ a * (a ^ q - 1) := by
  have e : a * (a ^ q - 1) = a ^ p - a := by rw [hq, Nat.pow_succ, Nat.mul_sub, Nat.mul_one, Nat.mul_comm]
  rw [e]
  have hle : a ≤ a ^ p := by rw [hq, Nat.pow_succ]; exact Nat.le_mul_of_pos_left a ha0
  exact dvd_sub_of_mod hle h.symm
 rcases hp.euclid hd with h' | h'
 ·
  exact absurd h' ha
 ·
  rw [show p - 1 = q by omega]
  obtain ⟨c, hc⟩ := h'
  have h1 : (1 : Nat) % p = 1 := Nat.mod_eq_of_lt (by have := hp.1; omega)
  have e : a ^ q = 1 + p * c := by omega
  rw [e, Nat.add_mul_mod_self_left, h1]
theorem pow_emod (p x : Int) (n : Nat) : (x % p) ^ n % p = x ^ n % p := by
 induction n with
 | zero => simp
 | succ n ih => rw [Int.pow_succ, Int.pow_succ, Int.mul_emod, ih, Int.emod_emod_of_dvd _ (Int.dvd_refl p), ← Int.mul_emod]
theorem pw_step {p : Int} (out x : Int) (n : Nat) : out * (x * x % p) ^ n % p = out * x ^ (2 * n) % p := by
 rw [Int.mul_emod, pow_emod, ← Int.mul_emod, Int.pow_mul, show x ^ 2 = x * x by rw [Int.pow_succ, Int.pow_succ, Int.pow_zero, Int.one_mul]]
theorem pow_loop (l : Nat → Int → Int → Int → Int → Option Int) (fin : Int → Int → Option Int) (m : Int → Int) (p : Int) (hp : 2 ≤ p) (hp2 : p ≤ 1000000) (hm : ∀ y, 0 ≤ y → m y = y % p)
  (hl : ∀ k e out x, l (k + 1) p e out x = if e > 0 then (if Int.tmod e 2 = 1 then l k p (wrap64 (Int.tdiv e 2)) (m (wrap64 (out * x))) (m (wrap64 (x * x))) else l k p (wrap64 (Int.tdiv e 2)) out (m (wrap64 (x * x)))) else fin p out)
  (d : Nat) : ∀ (k : Nat) (e out x : Int), e < d → d < k → 0 ≤ e → e ≤ 1000000000 → 0 ≤ out → out < p → 0 ≤ x → x < p → l k p e out x = fin p (out * x ^ e.toNat % p) := by
 induction d with
 | zero => intro k e out x h; omega
 | succ d ih =>
  intro k e out x he hk h0 h9 o0 o1 x0 x1
  obtain ⟨k, rfl⟩ : ∃ m, k = m + 1 := ⟨k - 1, by omega⟩
  rw [hl]
  by_cases h : e > 0
  ·
   rw [if_pos h]
   have hb1 := mul_bd (a := 1000000) (b := 1000000) o0 (by omega) x0 (by omega)
   have hb2 := mul_bd (a := 1000000) (b := 1000000) x0 (by omega) x0 (by omega)
   have e1 : Int.tdiv e 2 = e / 2 := Int.tdiv_eq_ediv_of_nonneg h0
   have e2 : Int.tmod e 2 = e % 2 := tmod_nn h0
   have ew : wrap64 (e / 2) = e / 2 := w64 (by omega) (by omega)
   rw [e1, e2, ew, w64 (x := out * x) (by omega) (by omega), w64 (x := x * x) (by omega) (by omega), hm _ hb1.1, hm _ hb2.1]
   have b2 := emod_bd (x := x * x) (p := p) (by omega)
   have b1 := emod_bd (x := out * x) (p := p) (by omega)
   by_cases h1 : e % 2 = 1
   ·
    rw [if_pos h1, ih k (e / 2) (out * x % p) (x * x % p) (by omega) (by omega) (by omega) (by omega) b1.1 b1.2 b2.1 b2.2, pw_step]
    have hn : e.toNat = 2 * (e / 2).toNat + 1 := by omega
    rw [hn, Int.pow_succ, em_l]
    have : out * x * x ^ (2 * (e / 2).toNat) = out * (x ^ (2 * (e / 2).toNat) * x) := by
     rw [Int.mul_assoc, Int.mul_comm x]
    rw [this]
   ·
    rw [if_neg h1, ih k (e / 2) out (x * x % p) (by omega) (by omega) (by omega) (by omega) o0 o1 b2.1 b2.2, pw_step]
    have hn : e.toNat = 2 * (e / 2).toNat := by omega
    rw [hn]
  ·
   rw [if_neg h]
   have hz : e.toNat = 0 := by omega
   rw [hz, Int.pow_zero, Int.mul_one, Int.emod_eq_of_lt o0 o1]
def IsP (p : Int) : Prop := 2 ≤ p ∧ p ≤ 10007 ∧ Pr p.toNat
open Classical in
noncomputable def primeB (p : Int) : Bool := decide (IsP p)
theorem primeB_iff {p : Int} : primeB p = true ↔ IsP p := by
 unfold primeB; exact @decide_eq_true_iff _ (Classical.propDecidable _)
theorem prime_loop (l : Nat → Int → Int → Option Bool) (p : Int) (hp : 2 ≤ p) (hp2 : p ≤ 10007)
  (hl : ∀ k i, l (k + 1) p i = if wrap64 (i * i) ≤ p then (if i = 0 then none else (if Int.tmod p i = 0 then some false else l k p (wrap64 (i + 1)))) else some true)
  (d : Nat) : ∀ (k : Nat) (i : Int), 2 ≤ i → i ≤ 101 → 101 - i < d → d < k →
   ∃ b, l k p i = some b ∧ (b = true ↔ ∀ j : Int, i ≤ j → j * j ≤ p → p % j ≠ 0) := by
 induction d with
 | zero => intro k i h1 h2 h3; omega
 | succ d ih =>
  intro k i h1 h2 h3 hk
  obtain ⟨k, rfl⟩ : ∃ m, k = m + 1 := ⟨k - 1, by omega⟩
  rw [hl]
  have hb := mul_bd (a := 101) (b := 101) (x := i) (y := i) (by omega) h2 (by omega) h2
  rw [w64 (by omega) (by omega), w64 (x := i + 1) (by omega) (by omega)]
  by_cases hle : i * i ≤ p
  ·
   have hi : i ≤ 100 := by
    rcases Int.lt_or_le 100 i with h | h
    ·
     have := Int.mul_le_mul (a := 101) (b := 101) (c := i) (d := i) (by omega) (by omega) (by omega) (by omega); omega
    ·
     exact h
   rw [if_pos hle, if_neg (by omega), tmod_nn (by omega)]
   by_cases hd : p % i = 0
   ·
    rw [if_pos hd]
    exact ⟨false, rfl, by simp; exact ⟨i, Int.le_refl _, hle, hd⟩⟩
   ·
    rw [if_neg hd]
    obtain ⟨b, hb1, hb2⟩ := ih k (i + 1) (by omega) (by omega) (by omega) (by omega)
    refine ⟨b, hb1, hb2.trans ⟨fun h j hj hjj => ?_, fun h j hj hjj => h j (by omega) hjj⟩⟩
    by_cases e : j = i
    ·
     subst e; exact hd
    ·
     exact h j (by omega) hjj
  ·
   rw [if_neg hle]
   refine ⟨true, rfl, by simp; intro j hj hjj; exfalso; apply hle; exact Int.le_trans (Int.mul_le_mul hj hj (by omega) (by omega)) hjj⟩
theorem trial_iff {p : Int} (hp : 2 ≤ p) : (∀ j : Int, 2 ≤ j → j * j ≤ p → p % j ≠ 0) ↔ Pr p.toNat := by
 constructor
 ·
  intro h
  refine Pr.of_trial (by omega) fun d hd hdd h0 => ?_
  refine h d (by omega) ?_ ?_
  ·
   have : ((d * d : Nat) : Int) ≤ p := by omega
   simpa using this
  ·
   have : ((p.toNat % d : Nat) : Int) = 0 := by rw [h0]; rfl
   rw [Int.natCast_emod, Int.toNat_of_nonneg (by omega)] at this
   exact this
 ·
  intro h j hj hjj h0
  obtain ⟨d, rfl⟩ : ∃ d : Nat, j = d := ⟨j.toNat, by omega⟩
  obtain ⟨n, rfl⟩ : ∃ n : Nat, p = n := ⟨p.toNat, by omega⟩
  simp only [Int.toNat_natCast] at h
  have hdv : d ∣ n := by
   apply Nat.dvd_of_mod_eq_zero
   have : ((n % d : Nat) : Int) = 0 := by rw [Int.natCast_emod]; exact h0
   omega
  have hn : d * d ≤ n := by
   have : ((d * d : Nat) : Int) ≤ n := by simpa using hjj
   omega
  rcases h.2 d hdv with e | e
  ·
   omega
  ·
   subst e
   have : d * 2 ≤ d * d := Nat.mul_le_mul_left d (by omega)
   omega
theorem primeB_loop {p : Int} {b : Bool} (h1 : 2 ≤ p) (h2 : p ≤ 10007) (h : b = true ↔ ∀ j : Int, 2 ≤ j → j * j ≤ p → p % j ≠ 0) : b = primeB p := by
 rw [Bool.eq_iff_iff, primeB_iff, h, trial_iff h1]
 exact ⟨fun h => ⟨h1, h2, h⟩, fun h => h.2.2⟩
theorem primeB_lo {p : Int} (h : ¬ 2 ≤ p) : primeB p = false := by
 rw [Bool.eq_false_iff]; intro e; exact h (primeB_iff.1 e).1
theorem primeB_hi {p : Int} (h : ¬ p ≤ 10007) : primeB p = false := by
 rw [Bool.eq_false_iff]; intro e; exact h (primeB_iff.1 e).2.1
end Go.Proofs.Ythiignohbooelaa.Num
namespace Go.Proofs.Ythiignohbooelaa.H
open Go.RowKit Go.Proofs.YthiignohbooelaaW.PrintWords Go.Proofs.YthiignohbooelaaW.PrintLast Go.Proofs.YthiignohbooelaaW.PrintMore Go.Proofs.Ythiignohbooelaa.Num
theorem Ev.succ {α : Type} {g : Nat → Option α} {r : α} (h : Ev (fun k => g (k + 1)) r) : Ev g r := by
 obtain ⟨K, h⟩ := h
 refine ⟨K + 1, fun k hk => ?_⟩
 obtain ⟨m, rfl⟩ : ∃ m, k = m + 1 := ⟨k - 1, by omega⟩
 exact h m (by omega)
theorem Ev_to {α : Type} {g : Nat → Option α} {r r' : α} (h : Ev g r) (e : r = r') : Ev g r' := e ▸ h
theorem wp1 {i : Nat} (h : i ≤ 1000000000000) : wrap64 ((i : Int) + 1) = ((i + 1 : Nat) : Int) := by rw [w64 (by omega) (by omega)]; omega
theorem wm1 {i : Nat} (h : i ≤ 1000000000000) : wrap64 ((i : Int) - 1) = (i : Int) - 1 := w64 (by omega) (by omega)
theorem ws1 {i : Nat} : ((i + 1 : Nat) : Int) - 1 = (i : Int) := by omega
theorem rd_n (l : List Int) (i : Nat) : rd l (i : Int) = l.getD i 0 := by simp [rd]
theorem rd_nat (l : List Int) (i : Nat) : rd l (i : Int) = l.getD i 0 := by simp [rd]
theorem rd_lt (l : List Int) (i : Nat) (h : i < l.length) : rd l (i : Int) = l[i] := by simp [rd, h]
theorem wn {i : Nat} (h : i ≤ 1000000000000) : wrap64 ((i : Int) + 1) = ((i + 1 : Nat) : Int) := by rw [w64 (by omega) (by omega)]; omega
end Go.Proofs.Ythiignohbooelaa.H
namespace Go.Proofs.Ythiignohbooelaa.Num
open Go.RowKit
def su (f : Nat → Int) : Nat → Int
 | 0 => 0
 | n + 1 => su f n + f n
theorem su_congr {f g : Nat → Int} : ∀ {n : Nat}, (∀ i, i < n → f i = g i) → su f n = su g n
 | 0, _ => rfl
 | n + 1, h => by rw [su, su, su_congr (n := n) (fun i hi => h i (by omega)), h n (by omega)]
theorem su_zero {f : Nat → Int} : ∀ {n : Nat}, (∀ i, i < n → f i = 0) → su f n = 0
 | 0, _ => rfl
 | n + 1, h => by rw [su, su_zero (n := n) (fun i hi => h i (by omega)), h n (by omega)]; rfl
theorem su_add (f g : Nat → Int) : ∀ n, su (fun i => f i + g i) n = su f n + su g n
 | 0 => rfl
 | n + 1 => by simp only [su, su_add f g n]; omega
theorem su_sub (f g : Nat → Int) : ∀ n, su (fun i => f i - g i) n = su f n - su g n
 | 0 => rfl
 | n + 1 => by simp only [su, su_sub f g n]; omega
theorem su_mul (c : Int) (f : Nat → Int) : ∀ n, su (fun i => c * f i) n = c * su f n
 | 0 => by simp [su]
 | n + 1 => by simp only [su, su_mul c f n, Int.mul_add]
theorem su_mulr (c : Int) (f : Nat → Int) (n : Nat) : su (fun i => f i * c) n = su f n * c := by
 rw [Int.mul_comm, ← su_mul]; exact su_congr fun i _ => Int.mul_comm _ _
theorem su_split (f : Nat → Int) (m : Nat) : ∀ n, su f (m + n) = su f m + su (fun i => f (m + i)) n
 | 0 => by simp [su]
 | n + 1 => by rw [← Nat.add_assoc, su, su_split f m n, su]; omega
theorem su_head (f : Nat → Int) (n : Nat) : su f (n + 1) = f 0 + su (fun i => f (i + 1)) n := by
 rw [Nat.add_comm n 1, su_split f 1 n]
 simp only [su]
 rw [Int.zero_add, su_congr (g := fun i => f (i + 1)) (fun i _ => by rw [Nat.add_comm])]
theorem su_ext {f : Nat → Int} {m n : Nat} (h : m ≤ n) (hz : ∀ i, m ≤ i → i < n → f i = 0) : su f n = su f m := by
 obtain ⟨d, rfl⟩ : ∃ d, n = m + d := ⟨n - m, by omega⟩
 rw [su_split, su_zero (n := d) (fun i hi => hz _ (by omega) (by omega))]; omega
theorem su_rev (f : Nat → Int) : ∀ n, su (fun i => f (n - 1 - i)) n = su f n
 | 0 => rfl
 | n + 1 => by
  rw [su_head, su, Int.add_comm]
  congr 1
  rw [← su_rev f n]
  exact su_congr fun i hi => by congr 1; omega
theorem su_tri (f : Nat → Nat → Int) : ∀ n, su (fun i => su (fun j => f i j) (i + 1)) n = su (fun j => su (fun i => f (j + i) j) (n - j)) n
 | 0 => rfl
 | n + 1 => by
  rw [su, su_tri f n]
  have h : ∀ j, j < n → su (fun i => f (j + i) j) (n + 1 - j) = su (fun i => f (j + i) j) (n - j) + f n j := fun j hj => by
   rw [show n + 1 - j = (n - j) + 1 by omega, su, show j + (n - j) = n by omega]
  have h3 : su (fun j => su (fun i => f (j + i) j) (n + 1 - j)) n = su (fun j => su (fun i => f (j + i) j) (n - j)) n + su (fun j => f n j) n := by rw [su_congr (n := n) h, su_add]
  have h2 : su (fun i => f (n + i) n) (n + 1 - n) = f n n := by rw [show n + 1 - n = 1 by omega]; simp [su]
  rw [su, su, h2, h3]
  omega
def cv (F G : Nat → Int) (n : Nat) : Int := su (fun i => F i * G (n - i)) (n + 1)
theorem cv_comm (F G : Nat → Int) (n : Nat) : cv F G n = cv G F n := by
 unfold cv
 rw [← su_rev]
 exact su_congr fun i hi => by
  rw [show n + 1 - 1 - i = n - i by omega, show n - (n - i) = i by omega, Int.mul_comm]
theorem cv_assoc (F G H : Nat → Int) (n : Nat) : cv (cv F G) H n = cv F (cv G H) n := by
 unfold cv
 have h1 : su (fun i => su (fun j => F j * G (i - j)) (i + 1) * H (n - i)) (n + 1) = su (fun i => su (fun j => F j * G (i - j) * H (n - i)) (i + 1)) (n + 1) :=
  su_congr fun i _ => (su_mulr _ _ _).symm
 rw [h1, su_tri (fun i j => F j * G (i - j) * H (n - i))]
 refine su_congr fun j hj => ?_
 rw [← su_mul, show n + 1 - j = n - j + 1 by omega]
 exact su_congr fun i _ => by rw [show j + i - j = i by omega, show n - (j + i) = n - j - i by omega, Int.mul_assoc]
theorem cv_zero (F : Nat → Int) (n : Nat) : cv (fun _ => 0) F n = 0 := su_zero fun i _ => Int.zero_mul _
def cg (p a b : Int) : Prop := p ∣ a - b
theorem cg.refl {p : Int} (a : Int) : cg p a a := ⟨0, by omega⟩
theorem cg.of_eq {p a b : Int} (h : a = b) : cg p a b := h ▸ cg.refl a
theorem cg.symm {p a b : Int} : cg p a b → cg p b a := fun ⟨k, h⟩ => ⟨-k, by rw [Int.mul_neg, ← h]; omega⟩
theorem cg.trans {p a b c : Int} : cg p a b → cg p b c → cg p a c := fun ⟨k, h⟩ ⟨m, h'⟩ => ⟨k + m, by rw [Int.mul_add, ← h, ← h']; omega⟩
theorem cg.add {p a b c d : Int} : cg p a b → cg p c d → cg p (a + c) (b + d) := fun ⟨k, h⟩ ⟨m, h'⟩ => ⟨k + m, by rw [Int.mul_add, ← h, ← h']; omega⟩
theorem cg.neg {p a b : Int} : cg p a b → cg p (-a) (-b) := fun ⟨k, h⟩ => ⟨-k, by rw [Int.mul_neg, ← h]; omega⟩
theorem cg.sub {p a b c d : Int} (h : cg p a b) (h' : cg p c d) : cg p (a - c) (b - d) := by
 rw [Int.sub_eq_add_neg, Int.sub_eq_add_neg]; exact h.add h'.neg
theorem cg.mul {p a b c d : Int} : cg p a b → cg p c d → cg p (a * c) (b * d) := fun ⟨k, h⟩ ⟨m, h'⟩ => ⟨k * c + b * m, by
 have e1 : a = b + p * k := by omega
 have e2 : c = d + p * m := by omega
 rw [e1, e2]; grind⟩
theorem cg.mod (p a : Int) : cg p (a % p) a := ⟨-(a / p), by have := Int.mul_ediv_add_emod a p; rw [Int.mul_neg]; omega⟩
theorem cg.emod {p a b : Int} (h : cg p a b) : a % p = b % p := by
 obtain ⟨k, h⟩ := h
 rw [show a = b + p * k by omega, Int.add_mul_emod_self_left]
theorem cg.of_emod {p a b : Int} (h : a % p = b % p) : cg p a b := (cg.mod p a).symm.trans (h ▸ cg.mod p b)
theorem cg.eq {p a b : Int} (h : cg p a b) (ha : 0 ≤ a ∧ a < p) (hb : 0 ≤ b ∧ b < p) : a = b := by
 have := h.emod; rwa [Int.emod_eq_of_lt ha.1 ha.2, Int.emod_eq_of_lt hb.1 hb.2] at this
theorem cg.zero {p a : Int} : cg p a 0 ↔ a % p = 0 := ⟨fun h => by have := h.emod; simpa using this, fun h => cg.of_emod (by simpa using h)⟩
theorem cg.su {p : Int} {f g : Nat → Int} : ∀ {n : Nat}, (∀ i, i < n → cg p (f i) (g i)) → cg p (su f n) (su g n)
 | 0, _ => cg.refl _
 | n + 1, h => (cg.su (n := n) fun i hi => h i (by omega)).add (h n (by omega))
theorem cg.cv {p : Int} {F F' G G' : Nat → Int} (hF : ∀ i, cg p (F i) (F' i)) (hG : ∀ i, cg p (G i) (G' i)) (n : Nat) : cg p (cv F G n) (cv F' G' n) := cg.su fun i _ => (hF i).mul (hG _)
theorem cg.pow {p a b : Int} (h : cg p a b) : ∀ n : Nat, cg p (a ^ n) (b ^ n)
 | 0 => by rw [Int.pow_zero, Int.pow_zero]; exact cg.refl 1
 | n + 1 => by rw [Int.pow_succ, Int.pow_succ]; exact (cg.pow h n).mul h
theorem inv_cg {p x : Int} (hp : IsP p) (hx : x % p ≠ 0) : cg p (x * (x ^ (p - 2).toNat % p)) 1 := by
 have h2 := hp.1
 obtain ⟨n, hn⟩ : ∃ n : Nat, p = n := ⟨p.toNat, by omega⟩
 subst hn
 have hpr : Pr n := by simpa using hp.2.2
 obtain ⟨a, ha⟩ : ∃ a : Nat, x % (n : Int) = a := ⟨(x % (n : Int)).toNat, by have := emod_bd (x := x) (p := n) (by omega); omega⟩
 have hb := emod_bd (x := x) (p := (n : Int)) (by omega)
 have hnd : ¬ n ∣ a := fun h => by have := Nat.le_of_dvd (by omega) h; omega
 have hf := hpr.fermat1 hnd
 have h1 : cg n ((a : Int) ^ (n - 1)) 1 := by
  refine cg.of_emod ?_
  have : ((a ^ (n - 1) % n : Nat) : Int) = 1 := by rw [hf]; rfl
  rw [Int.natCast_emod, Int.natCast_pow] at this
  rw [this, Int.emod_eq_of_lt (by omega) (by omega)]
 have hxa : cg n x a := ha ▸ (cg.mod n x).symm
 refine ((cg.refl x).mul (cg.mod _ _)).trans ?_
 have e : x * x ^ ((n : Int) - 2).toNat = x ^ (n - 1) := by
  rw [Int.mul_comm, ← Int.pow_succ]; congr 1; omega
 rw [e]
 exact (hxa.pow _).trans h1
end Go.Proofs.Ythiignohbooelaa.Num
namespace Go.Proofs.Ythiignohbooelaa.H
open Go.RowKit Go.Proofs.YthiignohbooelaaW.PrintWords Go.Proofs.YthiignohbooelaaW.PrintLast Go.Proofs.YthiignohbooelaaW.PrintMore Go.Proofs.Ythiignohbooelaa.Num
theorem spec_prime (p : Int) : Ev (fun k => spec_l01Prime.f k p) (primeB p) := by
 refine ⟨200, fun k hk => ?_⟩
 unfold spec_l01Prime.f spec_l01In.f
 by_cases h1 : p ≥ 2
 ·
  by_cases h2 : p ≤ 10007
  ·
   obtain ⟨b, hb, hiff⟩ := prime_loop spec_l01Prime.l0 p h1 h2 (fun k i => rfl) 102 k 2 (by omega) (by omega) (by omega) (by omega)
   simp only [if_pos h1, Option.bind_some, decide_eq_true h2, if_true, hb, primeB_loop h1 h2 hiff]
  ·
   simp [if_pos h1, decide_eq_false h2, primeB_hi h2]
 ·
  simp [if_neg h1, primeB_lo h1]
theorem impl_prime (p : Int) : Ev (fun k => impl_IsPrime.f k p) (primeB p) := by
 refine ⟨200, fun k hk => ?_⟩
 unfold impl_IsPrime.f impl_within.f
 by_cases h1 : 2 ≤ p
 ·
  by_cases h2 : p ≤ 10007
  ·
   obtain ⟨b, hb, hiff⟩ := prime_loop impl_IsPrime.l0 p h1 h2 (fun k i => rfl) 102 k 2 (by omega) (by omega) (by omega) (by omega)
   simp only [if_pos h1, Option.bind_some, decide_eq_true h2, if_true, hb, primeB_loop h1 h2 hiff]
  ·
   simp [if_pos h1, decide_eq_false h2, primeB_hi h2]
 ·
  simp [if_neg h1, primeB_lo h1]
theorem spec_mod {p x : Int} (hp : 0 < p) (hp2 : p ≤ 1000000000) : spec_l01Mod.f p x = some (x % p) := by
 unfold spec_l01Mod.f; rw [if_neg (by omega), md hp hp2]
theorem impl_mod {p x : Int} (hp : 0 < p) (hp2 : p ≤ 1000000000) : impl_field_mod.f p x = some (x % p) := by
 unfold impl_field_mod.f; rw [if_neg (by omega), md hp hp2]
theorem impl_mul {p x y : Int} (hp : 0 < p) (hp2 : p ≤ 1000000000) (h1 : -9223372036854775808 ≤ x * y) (h2 : x * y ≤ 9223372036854775807) : impl_field_mul.f p x y = some (x * y % p) := by
 unfold impl_field_mul.f; rw [impl_mod hp hp2, w64 h1 h2]; rfl
theorem spec_power {p x e : Int} (hp : 2 ≤ p) (hp2 : p ≤ 10007) (e0 : 0 ≤ e) (e1 : e ≤ 1000000000) : Ev (fun k => spec_l01Power.f k p x e) (x ^ e.toNat % p) := by
 refine ⟨e.toNat + 2, fun k hk => ?_⟩
 have hb := emod_bd (x := x) (p := p) (by omega)
 simp only [spec_l01Power.f, spec_mod (show 0 < p by omega) (show p ≤ 1000000000 by omega), Option.bind_some]
 rw [pow_loop spec_l01Power.l0 (fun p out => some (Int.tmod out p)) (fun y => Int.tmod y p) p hp (by omega) (fun y hy => tmod_nn hy) (fun k e out x => by
   simp only [spec_l01Power.l0, if_neg (show ¬ p = 0 by omega)]) (e.toNat + 1) k e 1 (x % p) (by omega) (by omega) e0 e1 (by omega) (by omega) hb.1 hb.2]
 rw [Int.one_mul, pow_emod, tmod_nn (emod_bd (by omega)).1, Int.emod_emod]
theorem impl_power {p x e : Int} (hp : 2 ≤ p) (hp2 : p ≤ 10007) (x0 : 0 ≤ x) (x1 : x < p) (e0 : 0 ≤ e) (e1 : e ≤ 1000000000) : Ev (fun k => impl_field_power.f k p x e) (x ^ e.toNat % p) := by
 refine ⟨e.toNat + 2, fun k hk => ?_⟩
 simp only [impl_field_power.f, impl_mod (show 0 < p by omega) (show p ≤ 1000000000 by omega), Option.bind_some]
 rw [Int.emod_eq_of_lt (a := 1) (by omega) (by omega)]
 rw [pow_loop (fun k p e out x => impl_field_power.l0 k p x e out) (fun p out => some out) (fun y => y % p) p hp (by omega) (fun y hy => rfl) (fun k e out x => by
   simp only [impl_field_power.l0, impl_field_mul.f, impl_mod (show 0 < p by omega) (show p ≤ 1000000000 by omega), Option.bind_some]) (e.toNat + 1) k e 1 x (by omega) (by omega) e0 e1 (by omega) (by omega) x0 x1]
 rw [Int.one_mul]
theorem spec_inverse {p x : Int} (hp : 2 ≤ p) (hp2 : p ≤ 10007) : Ev (fun k => spec_l01Inverse.f k p x) (x ^ (p - 2).toNat % p) := by
 obtain ⟨K, h⟩ := spec_power (x := x) (e := p - 2) hp hp2 (by omega) (by omega)
 refine ⟨K, fun k hk => ?_⟩
 have hw : wrap64 (p - 2) = p - 2 := w64 (by omega) (by omega)
 have e := h k hk
 simp only at e
 simp only [spec_l01Inverse.f, hw, e, Option.bind_some]
theorem impl_inverse {p x : Int} (hp : 2 ≤ p) (hp2 : p ≤ 10007) (x0 : 0 ≤ x) (x1 : x < p) : Ev (fun k => impl_field_inverse.f k p x) (x ^ (p - 2).toNat % p) := by
 obtain ⟨K, h⟩ := impl_power (x := x) (e := p - 2) hp hp2 x0 x1 (by omega) (by omega)
 refine ⟨K, fun k hk => ?_⟩
 have hw : wrap64 (p - 2) = p - 2 := w64 (by omega) (by omega)
 have e := h k hk
 simp only at e
 simp only [impl_field_inverse.f, hw, e, Option.bind_some]
theorem hasB_iff {p x : Int} : hasB p x = true ↔ 0 ≤ x ∧ x < p := by unfold hasB; simp
theorem poly_loop (p : Int) (l : List Int) (hl : l.length ≤ 1000000000) (d : Nat) : ∀ (k i : Nat), i + d = l.length → d < k → spec_l01Poly.l0 k p l (i : Int) = some ((l.drop i).all (hasB p) && (decide (l.length ≤ 25) && (decide (l.length = 0) || decide (rd l ((l.length : Int) - 1) ≠ 0)))) := by
 induction d with
 | zero =>
  intro k i h1 hk
  obtain ⟨k, rfl⟩ : ∃ m, k = m + 1 := ⟨k - 1, by omega⟩
  simp only [spec_l01Poly.l0]
  rw [if_neg (by omega), List.drop_of_length_le (by omega)]
  by_cases h25 : l.length ≤ 25
  ·
   rw [if_pos (by omega)]
   by_cases h0 : l.length = 0
   ·
    rw [if_pos (by omega)]; simp [h0]
   ·
    have hw : wrap64 ((l.length : Int) - 1) = (l.length : Int) - 1 := w64 (by omega) (by omega)
    rw [if_neg (by omega), hw, if_pos (by omega), if_pos (by omega)]
    simp [h25, h0, bne]
    rfl
  ·
   rw [if_neg (by omega)]; simp [h25]
 | succ d ih =>
  intro k i h1 hk
  obtain ⟨k, rfl⟩ : ∃ m, k = m + 1 := ⟨k - 1, by omega⟩
  simp only [spec_l01Poly.l0]
  rw [if_pos (by omega), if_pos (by omega), rd_lt l i (by omega), wn (by omega), ih k (i + 1) (by omega) (by omega), List.drop_eq_getElem_cons (show i < l.length by omega), List.all_cons]
  by_cases h0 : l[i] < 0
  ·
   rw [if_pos h0]; simp [hasB]; omega
  ·
   rw [if_neg h0]
   by_cases hp : l[i] ≥ p
   ·
    rw [if_pos hp]; simp [hasB]; omega
   ·
    rw [if_neg hp]
    have : hasB p l[i] = true := hasB_iff.2 (by omega)
    rw [this, Bool.true_and]
theorem spec_poly (p : Int) (l : List Int) (hl : l.length ≤ 1000000000) : Ev (fun k => spec_l01Poly.f k p l) (polyB p l) := by
 refine ⟨l.length + 2, fun k hk => ?_⟩
 unfold spec_l01Poly.f
 have h := poly_loop p l hl l.length k 0 (by omega) (by omega)
 simp only [Int.natCast_zero, List.drop_zero] at h
 show spec_l01Poly.l0 k p l 0 = _
 rw [h]
 unfold polyB
 cases decide (l.length ≤ 25) <;> simp [Bool.and_comm]
structure Po (p : Int) (l : List Int) : Prop where
 len : l.length ≤ 25
 el : ∀ x ∈ l, 0 ≤ x ∧ x < p
 last : l.length = 0 ∨ rd l ((l.length : Int) - 1) ≠ 0
theorem polyB_iff {p : Int} {l : List Int} : polyB p l = true ↔ Po p l := by
 unfold polyB
 simp only [Bool.and_eq_true, Bool.or_eq_true, decide_eq_true_eq, List.all_eq_true, hasB_iff]
 exact ⟨fun ⟨⟨a, b⟩, c⟩ => ⟨a, b, c⟩, fun h => ⟨⟨h.len, h.el⟩, h.last⟩⟩
noncomputable def codeL (p : Int) (b : Bool) (ls : List (List Int)) : Int := if ls.all (polyB p) = true then (if (primeB p && b) = true then 0 else 2) else 1
theorem code_loop (p : Int) (ls : List (List Int)) (hl : ls.length ≤ 1000000000) (hls : ∀ l ∈ ls, l.length ≤ 1000000000) (K : Nat) (hK : ∀ l ∈ ls, ∀ k, K ≤ k → spec_l01Poly.f k p l = some (polyB p l)) (hP : ∀ k, K ≤ k → spec_l01Prime.f k p = some (primeB p)) (d : Nat) :
  ∀ (k i : Nat), i + d = ls.length → K + d < k → spec_l01Code.l0 k p ls (i : Int) = some (codeL p true (ls.drop i)) := by
 induction d with
 | zero =>
  intro k i h1 hk
  obtain ⟨k, rfl⟩ : ∃ m, k = m + 1 := ⟨k - 1, by omega⟩
  simp only [spec_l01Code.l0]
  rw [if_neg (by omega), List.drop_of_length_le (by omega), hP k (by omega)]
  simp [codeL]
  cases primeB p <;> simp
 | succ d ih =>
  intro k i h1 hk
  obtain ⟨k, rfl⟩ : ∃ m, k = m + 1 := ⟨k - 1, by omega⟩
  simp only [spec_l01Code.l0]
  have hrd : rd_L2 ls (i : Int) = ls[i]'(by omega) := by
   simp [rd_L2, List.getD_eq_getElem?_getD, show i < ls.length by omega]
  rw [if_pos (by omega), if_pos (by omega), hrd, hK _ (List.getElem_mem _) k (by omega), Option.bind_some, wn (by omega), ih k (i + 1) (by omega) (by omega), List.drop_eq_getElem_cons (show i < ls.length by omega)]
  cases hq : polyB p (ls[i]'(by omega)) with
  | true => simp only [codeL, List.all_cons, hq, Bool.true_and, if_true]
  | false => simp [codeL, List.all_cons, hq, -List.getElem_cons_drop]
theorem spec_code (p : Int) (ls : List (List Int)) (hl : ls.length ≤ 1000000) (hls : ∀ l ∈ ls, l.length ≤ 1000000000) : Ev (fun k => spec_l01Code.f k p ls) (codeL p true ls) := by
 obtain ⟨K1, h1⟩ : ∃ K, ∀ l ∈ ls, ∀ k, K ≤ k → spec_l01Poly.f k p l = some (polyB p l) := by
  clear hl
  induction ls with
  | nil => exact ⟨0, fun l hl => by simp at hl⟩
  | cons a ls ih =>
   obtain ⟨K, h⟩ := ih (fun l hl => hls l (by simp [hl]))
   obtain ⟨K', h'⟩ := spec_poly p a (hls a (by simp))
   refine ⟨K + K', fun l hl k hk => ?_⟩
   rcases List.mem_cons.1 hl with rfl | hl
   ·
    exact h' k (by omega)
   ·
    exact h l hl k (by omega)
 obtain ⟨K2, h2⟩ := spec_prime p
 refine ⟨K1 + K2 + ls.length + 2, fun k hk => ?_⟩
 unfold spec_l01Code.f
 exact code_loop p ls (by omega) hls (K1 + K2) (fun l hl k hk => h1 l hl k (by omega)) (fun k hk => h2 k (by omega)) ls.length k 0 (by omega) (by omega)
theorem impl_code1 (p : Int) (b : Bool) (l : List Int) : Ev (fun k => impl_polyCode_1.f k p b l) (codeL p b [l]) := by
 obtain ⟨K, h⟩ := impl_prime p
 refine ⟨K, fun k hk => ?_⟩
 have e := h k hk
 simp only at e
 simp only [impl_polyCode_1.f, codeL, e, Option.bind_some, List.all_cons, List.all_nil, Bool.and_true]
 split <;> rfl
theorem codeL_0 {p : Int} {b : Bool} {ls : List (List Int)} (h : codeL p b ls = 0) : IsP p ∧ b = true ∧ ∀ l ∈ ls, Po p l := by
 unfold codeL at h
 split at h
 ·
  split at h
  ·
   rename_i h1 h2
   simp only [Bool.and_eq_true] at h2
   exact ⟨primeB_iff.1 h2.1, h2.2, fun l hl => polyB_iff.1 (List.all_eq_true.1 h1 l hl)⟩
  ·
   cases h
 ·
  cases h
def tlen (l : List Int) : Nat → Nat
 | 0 => 0
 | n + 1 => if l.getD n 0 = 0 then tlen l n else n + 1
def trimL (l : List Int) : List Int := l.take (tlen l l.length)
theorem tlen_le (l : List Int) : ∀ n, tlen l n ≤ n
 | 0 => Nat.le_refl _
 | n + 1 => by unfold tlen; split; (have := tlen_le l n; omega); omega
theorem tlen_take (l : List Int) (m : Nat) : ∀ n, n ≤ m → tlen (l.take m) n = tlen l n
 | 0, _ => rfl
 | n + 1, h => by
  have e : (l.take m).getD n 0 = l.getD n 0 := by simp [List.getD_eq_getElem?_getD, show n < m by omega]
  unfold tlen
  rw [e, tlen_take l m n (by omega)]
theorem own_some (l : List Int) (h : l.length < 17592186044416) : spec_l01Own.f l = some l := by
 simp [spec_l01Own.f, h]
theorem specTrim_loop (l : List Int) (hl : l.length ≤ 1000000000) : ∀ (n k : Nat), n ≤ l.length → n < k → spec_l01Trim.l0 k l (n : Int) = some (l.take (tlen l n))
 | 0, k, h, hk => by
  obtain ⟨k, rfl⟩ : ∃ m, k = m + 1 := ⟨k - 1, by omega⟩
  simp only [spec_l01Trim.l0]
  rw [if_neg (by omega), if_pos (by omega), if_pos (by omega), own_some _ (by rw [List.length_take]; omega)]
  simp [tlen]
 | n + 1, k, h, hk => by
  obtain ⟨k, rfl⟩ : ∃ m, k = m + 1 := ⟨k - 1, by omega⟩
  simp only [spec_l01Trim.l0]
  have hw : wrap64 (((n + 1 : Nat) : Int) - 1) = (n : Int) := by rw [w64 (by omega) (by omega)]; omega
  rw [if_pos (by omega), hw, if_pos (by omega), if_pos (by omega), rd_nat]
  by_cases h0 : l.getD n 0 = 0
  ·
   rw [if_pos h0, specTrim_loop l hl n k (by omega) (by omega)]
   simp only [tlen, if_pos h0]
  ·
   rw [if_neg h0, if_pos (by omega), if_pos (by omega), own_some _ (by rw [List.length_take]; omega), Int.toNat_natCast]
   simp only [tlen, if_neg h0, Option.bind_some]
theorem spec_trim (l : List Int) (hl : l.length ≤ 1000000000) : Ev (fun k => spec_l01Trim.f k l) (trimL l) :=
 ⟨l.length + 2, fun k hk => specTrim_loop l hl l.length k (Nat.le_refl _) (by omega)⟩
theorem implTrim_loop : ∀ (n k : Nat) (l : List Int), l.length = n → n ≤ 1000000000 → n < k → impl_trimmed.l0 k l = some (trimL l)
 | 0, k, l, h, hl, hk => by
  obtain ⟨k, rfl⟩ : ∃ m, k = m + 1 := ⟨k - 1, by omega⟩
  simp only [impl_trimmed.l0]
  rw [if_neg (by omega)]
  simp [trimL, h, List.eq_nil_of_length_eq_zero h]
 | n + 1, k, l, h, hl, hk => by
  obtain ⟨k, rfl⟩ : ∃ m, k = m + 1 := ⟨k - 1, by omega⟩
  simp only [impl_trimmed.l0]
  have hw : wrap64 ((l.length : Int) - 1) = (n : Int) := by rw [w64 (by omega) (by omega)]; omega
  rw [if_pos (by omega), hw, if_pos (by omega), if_pos (by omega), rd_nat, Int.toNat_natCast]
  by_cases h0 : l.getD n 0 = 0
  ·
   rw [if_pos h0, if_pos (by omega), implTrim_loop n k (l.take n) (by simp; omega) (by omega) (by omega)]
   simp only [trimL, h, tlen, if_pos h0]
   rw [show (l.take n).length = n by simp [h], tlen_take l n n (Nat.le_refl _), List.take_take]
   congr 2
   have := tlen_le l n
   omega
  ·
   rw [if_neg h0]
   simp only [trimL, h, tlen, if_neg h0]
   rw [List.take_of_length_le (by omega)]
theorem impl_trim (l : List Int) (hl : l.length ≤ 1000000000) : Ev (fun k => impl_trimmed.f k l) (trimL l) :=
 ⟨l.length + 2, fun k hk => implTrim_loop l.length k l rfl hl (by omega)⟩
theorem trimL_len (l : List Int) : (trimL l).length ≤ l.length := by unfold trimL; rw [List.length_take]; omega
def InR (p : Int) (l : List Int) : Prop := ∀ x ∈ l, 0 ≤ x ∧ x < p
theorem InR.get {p : Int} {l : List Int} (h : InR p l) (hp : 0 < p) (i : Nat) : 0 ≤ l.getD i 0 ∧ l.getD i 0 < p := by
 rcases Nat.lt_or_ge i l.length with hi | hi
 ·
  rw [List.getD_eq_getElem?_getD, List.getElem?_eq_getElem hi]; exact h _ (List.getElem_mem hi)
 ·
  rw [List.getD_eq_getElem?_getD, List.getElem?_eq_none hi]; exact ⟨Int.le_refl _, hp⟩
theorem InR.set {p : Int} {l : List Int} (h : InR p l) (i : Nat) {x : Int} (hx : 0 ≤ x ∧ x < p) : InR p (l.set i x) := by
 intro y hy
 rcases List.mem_or_eq_of_mem_set hy with h' | h'
 ·
  exact h y h'
 ·
  rw [h']; exact hx
theorem InR.take {p : Int} {l : List Int} (h : InR p l) (n : Nat) : InR p (l.take n) := fun x hx => h x (List.mem_of_mem_take hx)
theorem InR.trim {p : Int} {l : List Int} (h : InR p l) : InR p (trimL l) := h.take _
theorem InR.zeros {p : Int} (hp : 0 < p) (n : Nat) : InR p (List.replicate n 0) := fun x hx => by
 have := (List.mem_replicate.1 hx).2; subst this; exact ⟨Int.le_refl _, hp⟩
theorem InR.append {p : Int} {l l' : List Int} (h : InR p l) (h' : InR p l') : InR p (l ++ l') := fun x hx => by
 rcases List.mem_append.1 hx with hx | hx
 ·
  exact h x hx
 ·
  exact h' x hx
theorem InR.drop {p : Int} {l : List Int} (h : InR p l) (n : Nat) : InR p (l.drop n) := fun x hx => h x (List.mem_of_mem_drop hx)
theorem Po.inR {p : Int} {l : List Int} (h : Po p l) : InR p l := h.el
theorem InR.nil {p : Int} : InR p [] := fun x hx => by simp at hx
theorem InR.one {p x : Int} (h : 0 ≤ x ∧ x < p) : InR p [x] := fun y hy => by rw [List.mem_singleton.1 hy]; exact h
theorem mul_bd2 {p x y : Int} (hp : p ≤ 10007) (hx : 0 ≤ x ∧ x < p) (hy : 0 ≤ y ∧ y ≤ 100000) : 0 ≤ x * y ∧ x * y ≤ 1000700000 := by
 have := mul_bd (a := 10007) (b := 100000) hx.1 (by omega) hy.1 hy.2; omega
def ad (p c : Int) (g : List Int) : List Int → Nat → Nat → List Int
 | acc, _, 0 => acc
 | acc, i, d + 1 => ad p c g (acc.set i ((acc.getD i 0 + c * g.getD i 0) % p)) (i + 1) d
def pad (f : List Int) (n : Nat) : List Int := f ++ List.replicate (n - f.length) 0
def addL (p : Int) (f g : List Int) (c : Int) : List Int := trimL (ad p c g (pad f (max f.length g.length)) 0 g.length)
theorem ad_len (p c : Int) (g : List Int) : ∀ d i acc, (ad p c g acc i d).length = acc.length
 | 0, _, _ => rfl
 | d + 1, i, acc => by simp [ad, ad_len p c g d]
theorem ad_inR {p c : Int} (hp : 0 < p) (g : List Int) : ∀ d i acc, InR p acc → InR p (ad p c g acc i d)
 | 0, _, _, h => h
 | d + 1, i, acc, h => ad_inR hp g d (i + 1) _ (h.set i (emod_bd hp))
theorem pad_len (f : List Int) (n : Nat) (h : f.length ≤ n) : (pad f n).length = n := by simp [pad]; omega
theorem pad_inR {p : Int} (hp : 0 < p) {f : List Int} (h : InR p f) (n : Nat) : InR p (pad f n) := h.append (InR.zeros hp _)
theorem addL_len (p : Int) (f g : List Int) (c : Int) : (addL p f g c).length ≤ max f.length g.length := by
 have := trimL_len (ad p c g (pad f (max f.length g.length)) 0 g.length)
 rw [ad_len, pad_len _ _ (Nat.le_max_left _ _)] at this; exact this
theorem addL_inR {p : Int} (hp : 0 < p) {f : List Int} (h : InR p f) (g : List Int) (c : Int) : InR p (addL p f g c) := (ad_inR hp g _ _ _ (pad_inR hp h _)).trim
theorem cpInto_pad (f : List Int) (n : Nat) (h : f.length ≤ n) : cpInto (List.replicate n 0) f = pad f n := by
 simp [cpInto, pad]
theorem impl_add {p c : Int} {f g : List Int} (hp : 2 ≤ p) (hp2 : p ≤ 10007) (hf : f.length ≤ 1000) (hg : g.length ≤ 1000) (rf : InR p f) (rg : InR p g) (c0 : 0 ≤ c) (c1 : c ≤ 100000) :
  Ev (fun k => impl_field_add.f k p f g c) (addL p f g c) := by
 have loop2 : ∀ d i (acc : List Int), i + d = g.length → g.length ≤ acc.length → acc.length ≤ 1000 → InR p acc → Ev (fun k => impl_field_add.l0 k p c acc g (g.length : Int) (i : Int)) (trimL (ad p c g acc i d)) := by
  intro d
  induction d with
  | zero =>
   intro i acc h1 h2 h3 h4
   obtain ⟨K, h⟩ := impl_trim acc (by omega)
   refine ⟨K + 1, fun k hk => ?_⟩
   obtain ⟨k, rfl⟩ : ∃ m, k = m + 1 := ⟨k - 1, by omega⟩
   have e := h k (by omega)
   simp only at e
   simp only [impl_field_add.l0]
   rw [if_neg (by omega), e]
   simp [ad]
  | succ d ih =>
   intro i acc h1 h2 h3 h4
   obtain ⟨K, h⟩ := ih (i + 1) (acc.set i ((acc.getD i 0 + c * g.getD i 0) % p)) (by omega) (by simpa using h2) (by simpa using h3) (h4.set i (emod_bd (by omega)))
   refine ⟨K + 1, fun k hk => ?_⟩
   obtain ⟨k, rfl⟩ : ∃ m, k = m + 1 := ⟨k - 1, by omega⟩
   have e := h k (by omega)
   simp only at e
   have hb := mul_bd2 hp2 (rg.get (by omega) i) (y := c) (by omega)
   rw [Int.mul_comm] at hb
   have ha := h4.get (by omega) i
   simp only [impl_field_add.l0]
   rw [if_pos (by omega), if_pos (by omega), if_pos (by omega), if_pos (by omega), rd_nat, rd_nat, w64 (x := c * g.getD i 0) (by omega) (by omega), w64 (by omega) (by omega), impl_mod (by omega) (by omega), Option.bind_some, wn (by omega), Int.toNat_natCast, e]
   simp [ad]
 unfold impl_field_add.f
 by_cases hlt : (f.length : Int) < (g.length : Int)
 ·
  obtain ⟨K, h⟩ := loop2 g.length 0 (pad f g.length) (by omega) (by rw [pad_len _ _ (by omega)]; omega) (by rw [pad_len _ _ (by omega)]; omega) (pad_inR (by omega) rf _)
  refine ⟨K, fun k hk => ?_⟩
  have e := h k hk
  simp only [Int.natCast_zero] at e
  simp only
  rw [if_pos hlt, if_pos (by omega), if_pos (by omega), Int.toNat_natCast, cpInto_pad _ _ (by omega), e, addL, Nat.max_eq_right (by omega)]
 ·
  obtain ⟨K, h⟩ := loop2 g.length 0 (pad f f.length) (by omega) (by rw [pad_len _ _ (by omega)]; omega) (by rw [pad_len _ _ (by omega)]; omega) (pad_inR (by omega) rf _)
  refine ⟨K, fun k hk => ?_⟩
  have e := h k hk
  simp only [Int.natCast_zero] at e
  simp only
  rw [if_neg hlt, if_pos (by omega), if_pos (by omega), Int.toNat_natCast, cpInto_pad _ _ (by omega), e, addL, Nat.max_eq_left (by omega)]
theorem impl_times {p c : Int} {f : List Int} (hp : 2 ≤ p) (hp2 : p ≤ 10007) (hf : f.length ≤ 1000) (rf : InR p f) (c0 : 0 ≤ c) (c1 : c ≤ 100000) : Ev (fun k => impl_field_times.f k p f c) (addL p [] f c) := by
 obtain ⟨K, h⟩ := impl_add (f := []) (g := f) hp hp2 (by simp) hf InR.nil rf c0 c1
 refine ⟨K, fun k hk => ?_⟩
 have e := h k hk
 simp only at e
 simp only [impl_field_times.f, e, Option.bind_some]
def inv (p x : Int) : Int := x ^ (p - 2).toNat % p
theorem inv_bd {p : Int} (hp : 0 < p) (x : Int) : 0 ≤ inv p x ∧ inv p x < p := emod_bd hp
def monicL (p : Int) (f : List Int) : List Int := addL p [] f (inv p (rd f ((f.length : Int) - 1)))
theorem impl_monic {p : Int} {f : List Int} (hp : 2 ≤ p) (hp2 : p ≤ 10007) (hf : f.length ≤ 1000) (rf : InR p f) (h0 : f.length ≠ 0) : Ev (fun k => impl_field_monic.f k p f) (monicL p f) := by
 have hb := inv_bd (p := p) (by omega) (rd f ((f.length : Int) - 1))
 have hr : 0 ≤ rd f ((f.length : Int) - 1) ∧ rd f ((f.length : Int) - 1) < p := by
  have := rf.get (by omega) (f.length - 1)
  rw [← rd_nat] at this
  rwa [show ((f.length - 1 : Nat) : Int) = (f.length : Int) - 1 by omega] at this
 obtain ⟨K1, h1⟩ := impl_inverse (x := rd f ((f.length : Int) - 1)) hp hp2 hr.1 hr.2
 obtain ⟨K2, h2⟩ := impl_times (c := inv p (rd f ((f.length : Int) - 1))) (f := f) hp hp2 hf rf (by omega) (by omega)
 have hw : wrap64 ((f.length : Int) - 1) = (f.length : Int) - 1 := w64 (by omega) (by omega)
 refine ⟨K1 + K2, fun k hk => ?_⟩
 have e1 := h1 k (by omega)
 have e2 := h2 k (by omega)
 simp only at e1 e2
 simp only [impl_field_monic.f]
 rw [hw, if_pos (by omega), if_pos (by omega), e1, Option.bind_some]
 exact (congrArg (fun z => z.bind fun t => some t) e2).trans rfl
def pr1 (p x : Int) (g : List Int) (i : Nat) : List Int → Nat → Nat → List Int
 | acc, _, 0 => acc
 | acc, j, d + 1 => pr1 p x g i (acc.set (i + j) ((acc.getD (i + j) 0 + x * g.getD j 0) % p)) (j + 1) d
def pr0 (p : Int) (f g : List Int) : List Int → Nat → Nat → List Int
 | acc, _, 0 => acc
 | acc, i, d + 1 => pr0 p f g (pr1 p (f.getD i 0) g i acc 0 g.length) (i + 1) d
def mulW (p : Int) (f g : List Int) : List Int := pr0 p f g (List.replicate (f.length + g.length - 1) 0) 0 f.length
def mulL (p : Int) (f g : List Int) : List Int := if f.length = 0 ∨ g.length = 0 then [] else trimL (mulW p f g)
theorem pr1_len (p x : Int) (g : List Int) (i : Nat) : ∀ d j acc, (pr1 p x g i acc j d).length = acc.length
 | 0, _, _ => rfl
 | d + 1, j, acc => by simp [pr1, pr1_len p x g i d]
theorem pr0_len (p : Int) (f g : List Int) : ∀ d i acc, (pr0 p f g acc i d).length = acc.length
 | 0, _, _ => rfl
 | d + 1, i, acc => by simp [pr0, pr0_len p f g d, pr1_len]
theorem pr1_inR {p x : Int} (hp : 0 < p) (g : List Int) (i : Nat) : ∀ d j acc, InR p acc → InR p (pr1 p x g i acc j d)
 | 0, _, _, h => h
 | d + 1, j, acc, h => pr1_inR hp g i d (j + 1) _ (h.set _ (emod_bd hp))
theorem pr0_inR {p : Int} (hp : 0 < p) (f g : List Int) : ∀ d i acc, InR p acc → InR p (pr0 p f g acc i d)
 | 0, _, _, h => h
 | d + 1, i, acc, h => pr0_inR hp f g d (i + 1) _ (pr1_inR hp g i _ _ _ h)
theorem mulW_len (p : Int) (f g : List Int) : (mulW p f g).length = f.length + g.length - 1 := by simp [mulW, pr0_len]
theorem mulW_inR {p : Int} (hp : 0 < p) (f g : List Int) : InR p (mulW p f g) := pr0_inR hp f g _ _ _ (InR.zeros hp _)
theorem mulL_inR {p : Int} (hp : 0 < p) (f g : List Int) : InR p (mulL p f g) := by
 unfold mulL; split
 ·
  exact InR.nil
 ·
  exact (mulW_inR hp f g).trim
theorem mulL_len (p : Int) (f g : List Int) : (mulL p f g).length ≤ f.length + g.length - 1 := by
 unfold mulL; split
 ·
  simp
 ·
  have := trimL_len (mulW p f g); rw [mulW_len] at this; exact this
theorem spec_step {p : Int} {f g acc : List Int} (k i j : Nat) (hp : 2 ≤ p) (hi : i < f.length) (hj : j < g.length) (hL : i + j < acc.length) (h5 : i + j ≤ 100000)
  (hb : 0 ≤ f.getD i 0 * g.getD j 0 ∧ f.getD i 0 * g.getD j 0 ≤ 1000700000) (ha : 0 ≤ acc.getD (i + j) 0 ∧ acc.getD (i + j) 0 ≤ 100000) :
  spec_l01Times.l1 (k + 1) p f g acc (i : Int) (j : Int) = spec_l01Times.l1 k p f g (acc.set (i + j) ((acc.getD (i + j) 0 + f.getD i 0 * g.getD j 0) % p)) (i : Int) ((j + 1 : Nat) : Int) := by
 have hw : wrap64 ((i : Int) + (j : Int)) = ((i + j : Nat) : Int) := by rw [w64 (by omega) (by omega)]; omega
 have q1 : (j : Int) < (g.length : Int) := by omega
 have q2 : (0 : Int) ≤ ((i + j : Nat) : Int) := by omega
 have q3 : ((i + j : Nat) : Int) < (acc.length : Int) := by omega
 have q4 : (0 : Int) ≤ (i : Int) := by omega
 have q5 : (i : Int) < (f.length : Int) := by omega
 have q6 : (0 : Int) ≤ (j : Int) := by omega
 have q7 : ¬ p = 0 := by omega
 have w1 : wrap64 (f.getD i 0 * g.getD j 0) = f.getD i 0 * g.getD j 0 := w64 (by omega) (by omega)
 have w2 : wrap64 (acc.getD (i + j) 0 + f.getD i 0 * g.getD j 0) = acc.getD (i + j) 0 + f.getD i 0 * g.getD j 0 := w64 (by omega) (by omega)
 have w3 : wrap64 ((j : Int) + 1) = ((j + 1 : Nat) : Int) := wn (by omega)
 have w4 : Int.tmod (acc.getD (i + j) 0 + f.getD i 0 * g.getD j 0) p = (acc.getD (i + j) 0 + f.getD i 0 * g.getD j 0) % p := tmod_nn (by omega)
 simp only [spec_l01Times.l1, hw]
 rw [if_pos q1, if_pos q2, if_pos q3, if_pos q4, if_pos q5, if_pos q6, if_neg q7, rd_nat, rd_nat, rd_nat, w1, w2, w3, w4, Int.toNat_natCast]
theorem impl_step {p : Int} {f g acc : List Int} (k i j : Nat) (hp : 2 ≤ p) (hp2 : p ≤ 10007) (hi : i < f.length) (hj : j < g.length) (hL : i + j < acc.length) (h5 : i + j ≤ 100000)
  (hb : 0 ≤ f.getD i 0 * g.getD j 0 ∧ f.getD i 0 * g.getD j 0 ≤ 1000700000) (ha : 0 ≤ acc.getD (i + j) 0 ∧ acc.getD (i + j) 0 ≤ 100000) (n : Int) :
  impl_field_product.l1 (k + 1) p g acc (i : Int) (f.getD i 0) f n (i : Int) g (g.length : Int) (j : Int) = impl_field_product.l1 k p g (acc.set (i + j) ((acc.getD (i + j) 0 + f.getD i 0 * g.getD j 0) % p)) (i : Int) (f.getD i 0) f n (i : Int) g (g.length : Int) ((j + 1 : Nat) : Int) := by
 have hw : wrap64 ((i : Int) + (j : Int)) = ((i + j : Nat) : Int) := by rw [w64 (by omega) (by omega)]; omega
 have q1 : (j : Int) < (g.length : Int) := by omega
 have q2 : (0 : Int) ≤ ((i + j : Nat) : Int) := by omega
 have q3 : ((i + j : Nat) : Int) < (acc.length : Int) := by omega
 have q6 : (0 : Int) ≤ (j : Int) := by omega
 have w1 : wrap64 (f.getD i 0 * g.getD j 0) = f.getD i 0 * g.getD j 0 := w64 (by omega) (by omega)
 have w2 : wrap64 (acc.getD (i + j) 0 + f.getD i 0 * g.getD j 0) = acc.getD (i + j) 0 + f.getD i 0 * g.getD j 0 := w64 (by omega) (by omega)
 have w3 : wrap64 ((j : Int) + 1) = ((j + 1 : Nat) : Int) := wn (by omega)
 have w4 : impl_field_mod.f p (acc.getD (i + j) 0 + f.getD i 0 * g.getD j 0) = some ((acc.getD (i + j) 0 + f.getD i 0 * g.getD j 0) % p) := impl_mod (by omega) (by omega)
 simp only [impl_field_product.l1, hw]
 rw [if_pos q1, if_pos q6, if_pos q1, if_pos q2, if_pos q3, rd_nat, rd_nat, w1, w2, w3, w4, Int.toNat_natCast, Option.bind_some]
set_option maxHeartbeats 2000000 in
theorem spec_product {p : Int} {f g : List Int} (hp : 2 ≤ p) (hp2 : p ≤ 10007) (hf : f.length ≤ 1000) (hg : g.length ≤ 1000) (rf : InR p f) (rg : InR p g) : Ev (fun k => spec_l01Times.f k p f g) (mulL p f g) := by
 have inner : ∀ (i : Nat) (r : List Int), i < f.length → ∀ d j (acc : List Int), j + d = g.length → acc.length = f.length + g.length - 1 → InR p acc →
   Ev (fun k => spec_l01Times.l0 k p f g (pr1 p (f.getD i 0) g i acc j d) ((i + 1 : Nat) : Int)) r → Ev (fun k => spec_l01Times.l1 k p f g acc (i : Int) (j : Int)) r := by
  intro i r hi d
  induction d with
  | zero =>
   intro j acc h1 h2 h3 ⟨K, h⟩
   refine ⟨K + 1, fun k hk => ?_⟩
   obtain ⟨k, rfl⟩ : ∃ m, k = m + 1 := ⟨k - 1, by omega⟩
   have e := h k (by omega)
   simp only [pr1] at e
   simp only [spec_l01Times.l1]
   rw [if_neg (by omega), wn (by omega), e]
  | succ d ih =>
   intro j acc h1 h2 h3 h
   obtain ⟨K, h⟩ := ih (j + 1) (acc.set (i + j) ((acc.getD (i + j) 0 + f.getD i 0 * g.getD j 0) % p)) (by omega) (by simpa using h2) (h3.set _ (emod_bd (by omega))) h
   refine ⟨K + 1, fun k hk => ?_⟩
   obtain ⟨k, rfl⟩ : ∃ m, k = m + 1 := ⟨k - 1, by omega⟩
   have e := h k (by omega)
   simp only at e
   have hb := mul_bd2 hp2 (rf.get (by omega) i) (y := g.getD j 0) (by have := rg.get (by omega) j; omega)
   have ha := h3.get (by omega) (i + j)
   exact (spec_step k i j hp hi (by omega) (by omega) (by omega) hb ⟨ha.1, by omega⟩).trans e
 have outer : ∀ d i (acc : List Int), i + d = f.length → acc.length = f.length + g.length - 1 → InR p acc → Ev (fun k => spec_l01Times.l0 k p f g acc (i : Int)) (trimL (pr0 p f g acc i d)) := by
  intro d
  induction d with
  | zero =>
   intro i acc h1 h2 h3
   obtain ⟨K, h⟩ := spec_trim acc (by omega)
   refine ⟨K + 1, fun k hk => ?_⟩
   obtain ⟨k, rfl⟩ : ∃ m, k = m + 1 := ⟨k - 1, by omega⟩
   have e := h k (by omega)
   simp only at e
   simp only [spec_l01Times.l0]
   rw [if_neg (by omega), e]
   simp [pr0]
  | succ d ih =>
   intro i acc h1 h2 h3
   have hin := inner i _ (by omega) g.length 0 acc (by omega) h2 h3 (ih (i + 1) (pr1 p (f.getD i 0) g i acc 0 g.length) (by omega) (by rw [pr1_len]; exact h2) (pr1_inR (by omega) g i _ _ _ h3))
   obtain ⟨K, h⟩ := hin
   refine ⟨K + 1, fun k hk => ?_⟩
   obtain ⟨k, rfl⟩ : ∃ m, k = m + 1 := ⟨k - 1, by omega⟩
   have e := h k (by omega)
   simp only [Int.natCast_zero] at e
   simp only [spec_l01Times.l0]
   rw [if_pos (by omega), e]
   rfl
 unfold mulL
 by_cases h0 : f.length = 0 ∨ g.length = 0
 ·
  rw [if_pos h0]
  refine ⟨1, fun k hk => ?_⟩
  obtain ⟨k, rfl⟩ : ∃ m, k = m + 1 := ⟨k - 1, by omega⟩
  simp only [spec_l01Times.f]
  by_cases hf0 : (f.length : Int) = 0
  ·
   rw [if_pos hf0]; simp only [spec_l01Times.j0, if_true]
  ·
   rw [if_neg hf0]
   have hz : ((g.length : Int) == 0) = true := beq_iff_eq.mpr (by omega)
   rw [hz]; simp only [spec_l01Times.j0, if_true]
 ·
  rw [if_neg h0]
  obtain ⟨K, h⟩ := outer f.length 0 (List.replicate (f.length + g.length - 1) 0) (by omega) (by simp) (InR.zeros (by omega) _)
  refine ⟨K + 1, fun k hk => ?_⟩
  obtain ⟨k, rfl⟩ : ∃ m, k = m + 1 := ⟨k - 1, by omega⟩
  have e := h k (by omega)
  simp only [Int.natCast_zero] at e
  have hz : ((g.length : Int) == 0) = false := beq_eq_false_iff_ne.mpr (by omega)
  have hw : wrap64 (wrap64 ((f.length : Int) + (g.length : Int)) - 1) = ((f.length + g.length - 1 : Nat) : Int) := by rw [w64 (x := (f.length : Int) + (g.length : Int)) (by omega) (by omega), w64 (by omega) (by omega)]; omega
  simp only [spec_l01Times.f]
  rw [if_neg (by omega), hz]
  simp only [spec_l01Times.j0, hw, Bool.false_eq_true, if_false]
  rw [if_pos (by omega), if_pos (by omega), Int.toNat_natCast, e]
  rfl
set_option maxHeartbeats 2000000 in
theorem impl_product {p : Int} {f g : List Int} (hp : 2 ≤ p) (hp2 : p ≤ 10007) (hf : f.length ≤ 1000) (hg : g.length ≤ 1000) (rf : InR p f) (rg : InR p g) : Ev (fun k => impl_field_product.f k p f g) (mulL p f g) := by
 have inner : ∀ (i : Nat) (r : List Int), i < f.length → ∀ d j (acc : List Int), j + d = g.length → acc.length = f.length + g.length - 1 → InR p acc →
   Ev (fun k => impl_field_product.l0 k p g (pr1 p (f.getD i 0) g i acc j d) f (f.length : Int) ((i + 1 : Nat) : Int)) r → Ev (fun k => impl_field_product.l1 k p g acc (i : Int) (f.getD i 0) f (f.length : Int) (i : Int) g (g.length : Int) (j : Int)) r := by
  intro i r hi d
  induction d with
  | zero =>
   intro j acc h1 h2 h3 ⟨K, h⟩
   refine ⟨K + 1, fun k hk => ?_⟩
   obtain ⟨k, rfl⟩ : ∃ m, k = m + 1 := ⟨k - 1, by omega⟩
   have e := h k (by omega)
   simp only [pr1] at e
   simp only [impl_field_product.l1]
   rw [if_neg (by omega), wn (by omega), e]
  | succ d ih =>
   intro j acc h1 h2 h3 h
   obtain ⟨K, h⟩ := ih (j + 1) (acc.set (i + j) ((acc.getD (i + j) 0 + f.getD i 0 * g.getD j 0) % p)) (by omega) (by simpa using h2) (h3.set _ (emod_bd (by omega))) h
   refine ⟨K + 1, fun k hk => ?_⟩
   obtain ⟨k, rfl⟩ : ∃ m, k = m + 1 := ⟨k - 1, by omega⟩
   have e := h k (by omega)
   simp only at e
   have hb := mul_bd2 hp2 (rf.get (by omega) i) (y := g.getD j 0) (by have := rg.get (by omega) j; omega)
   have ha := h3.get (by omega) (i + j)
   exact (impl_step k i j hp hp2 hi (by omega) (by omega) (by omega) hb ⟨ha.1, by omega⟩ _).trans e
 have outer : ∀ d i (acc : List Int), i + d = f.length → acc.length = f.length + g.length - 1 → InR p acc → Ev (fun k => impl_field_product.l0 k p g acc f (f.length : Int) (i : Int)) (trimL (pr0 p f g acc i d)) := by
  intro d
  induction d with
  | zero =>
   intro i acc h1 h2 h3
   obtain ⟨K, h⟩ := impl_trim acc (by omega)
   refine ⟨K + 1, fun k hk => ?_⟩
   obtain ⟨k, rfl⟩ : ∃ m, k = m + 1 := ⟨k - 1, by omega⟩
   have e := h k (by omega)
   simp only at e
   simp only [impl_field_product.l0]
   rw [if_neg (by omega), e]
   simp [pr0]
  | succ d ih =>
   intro i acc h1 h2 h3
   have hin := inner i _ (by omega) g.length 0 acc (by omega) h2 h3 (ih (i + 1) (pr1 p (f.getD i 0) g i acc 0 g.length) (by omega) (by rw [pr1_len]; exact h2) (pr1_inR (by omega) g i _ _ _ h3))
   obtain ⟨K, h⟩ := hin
   refine ⟨K + 1, fun k hk => ?_⟩
   obtain ⟨k, rfl⟩ : ∃ m, k = m + 1 := ⟨k - 1, by omega⟩
   have e := h k (by omega)
   simp only [Int.natCast_zero] at e
   simp only [impl_field_product.l0]
   rw [if_pos (by omega), if_pos (by omega), if_pos (by omega), rd_nat, e]
   rfl
 unfold mulL
 by_cases h0 : f.length = 0 ∨ g.length = 0
 ·
  rw [if_pos h0]
  refine ⟨1, fun k hk => ?_⟩
  obtain ⟨k, rfl⟩ : ∃ m, k = m + 1 := ⟨k - 1, by omega⟩
  simp only [impl_field_product.f]
  by_cases hf0 : (f.length : Int) = 0
  ·
   rw [if_pos hf0]; simp only [impl_field_product.j0, if_true]
  ·
   rw [if_neg hf0]
   have hz : ((g.length : Int) == 0) = true := beq_iff_eq.mpr (by omega)
   rw [hz]; simp only [impl_field_product.j0, if_true]
 ·
  rw [if_neg h0]
  obtain ⟨K, h⟩ := outer f.length 0 (List.replicate (f.length + g.length - 1) 0) (by omega) (by simp) (InR.zeros (by omega) _)
  refine ⟨K + 1, fun k hk => ?_⟩
  obtain ⟨k, rfl⟩ : ∃ m, k = m + 1 := ⟨k - 1, by omega⟩
  have e := h k (by omega)
  simp only [Int.natCast_zero] at e
  have hz : ((g.length : Int) == 0) = false := beq_eq_false_iff_ne.mpr (by omega)
  have hw : wrap64 (wrap64 ((f.length : Int) + (g.length : Int)) - 1) = ((f.length + g.length - 1 : Nat) : Int) := by rw [w64 (x := (f.length : Int) + (g.length : Int)) (by omega) (by omega), w64 (by omega) (by omega)]; omega
  simp only [impl_field_product.f]
  rw [if_neg (by omega), hz]
  simp only [impl_field_product.j0, hw, Bool.false_eq_true, if_false]
  rw [if_pos (by omega), if_pos (by omega), Int.toNat_natCast, e]
  rfl
theorem trimL_id {l : List Int} (h : l.length = 0 ∨ l.getD (l.length - 1) 0 ≠ 0) : trimL l = l := by
 unfold trimL
 rcases h with h | h
 ·
  rw [h]; simp [tlen]; exact List.eq_nil_of_length_eq_zero h
 ·
  obtain ⟨n, hn⟩ : ∃ n, l.length = n + 1 ∨ l.length = 0 := ⟨l.length - 1, by omega⟩
  rcases hn with hn | hn
  ·
   rw [hn] at h ⊢
   simp only [Nat.add_sub_cancel] at h
   simp only [tlen, if_neg h]
   exact List.take_of_length_le (by omega)
  ·
   rw [hn]; simp [tlen]; exact List.eq_nil_of_length_eq_zero hn
theorem mul_ne0 {p x y : Int} (hp : IsP p) (hx : 0 < x ∧ x < p) (hy : 0 < y ∧ y < p) : x * y % p ≠ 0 := by
 intro h
 obtain ⟨a, rfl⟩ : ∃ a : Nat, x = a := ⟨x.toNat, by omega⟩
 obtain ⟨b, rfl⟩ : ∃ b : Nat, y = b := ⟨y.toNat, by omega⟩
 obtain ⟨n, hn⟩ : ∃ n : Nat, p = n := ⟨p.toNat, by have := hp.1; omega⟩
 subst hn
 have hd : n ∣ a * b := by
  apply Nat.dvd_of_mod_eq_zero
  have : ((a * b % n : Nat) : Int) = 0 := by simpa using h
  omega
 have hpr : Pr n := by simpa using hp.2.2
 rcases hpr.euclid hd with h' | h'
 ·
  have := Nat.le_of_dvd (by omega) h'; omega
 ·
  have := Nat.le_of_dvd (by omega) h'; omega
theorem pr1_other (p x : Int) (g : List Int) (i t : Nat) : ∀ d j acc, (t < i + j ∨ i + j + d ≤ t) → (pr1 p x g i acc j d).getD t 0 = acc.getD t 0
 | 0, _, _, _ => rfl
 | d + 1, j, acc, h => by
  rw [pr1, pr1_other p x g i t d (j + 1) _ (by omega)]
  simp only [List.getD_eq_getElem?_getD]
  rw [List.getElem?_set_ne (by omega)]
theorem pr1_snoc (p x : Int) (g : List Int) (i : Nat) : ∀ d j acc, pr1 p x g i acc j (d + 1) = (pr1 p x g i acc j d).set (i + (j + d)) (((pr1 p x g i acc j d).getD (i + (j + d)) 0 + x * g.getD (j + d) 0) % p)
 | 0, j, acc => rfl
 | d + 1, j, acc => by
  rw [pr1, pr1_snoc p x g i d (j + 1)]
  simp only [pr1, show j + 1 + d = j + (d + 1) by omega]
theorem pr0_snoc (p : Int) (f g : List Int) : ∀ d i acc, pr0 p f g acc i (d + 1) = pr1 p (f.getD (i + d) 0) g (i + d) (pr0 p f g acc i d) 0 g.length
 | 0, i, acc => rfl
 | d + 1, i, acc => by
  rw [pr0, pr0_snoc p f g d (i + 1)]
  simp only [pr0, show i + 1 + d = i + (d + 1) by omega]
theorem pr0_other (p : Int) (f g : List Int) (t : Nat) : ∀ d i acc, i + d + g.length ≤ t + 1 → (pr0 p f g acc i d).getD t 0 = acc.getD t 0
 | 0, _, _, _ => rfl
 | d + 1, i, acc, h => by
  rw [pr0, pr0_other p f g t d (i + 1) _ (by omega), pr1_other _ _ _ _ _ _ _ _ (by omega)]
theorem mulW_top {p : Int} {f g : List Int} (hf : 0 < f.length) (hg : 0 < g.length) : (mulW p f g).getD (f.length + g.length - 2) 0 = f.getD (f.length - 1) 0 * g.getD (g.length - 1) 0 % p := by
 obtain ⟨n, hn⟩ : ∃ n, f.length = n + 1 := ⟨f.length - 1, by omega⟩
 obtain ⟨m, hm⟩ : ∃ m, g.length = m + 1 := ⟨g.length - 1, by omega⟩
 have hl : ∀ d, (pr0 p f g (List.replicate (n + 1 + (m + 1) - 1) 0) 0 d).length = n + m + 1 := fun d => by rw [pr0_len]; simp; omega
 unfold mulW
 rw [hn, hm, pr0_snoc, hm, pr1_snoc]
 simp only [Nat.zero_add]
 rw [show n + 1 + (m + 1) - 2 = n + m by omega, show n + 1 - 1 = n by omega, show m + 1 - 1 = m by omega]
 simp only [List.getD_eq_getElem?_getD]
 rw [List.getElem?_set_self (by rw [pr1_len, hl]; omega)]
 simp only [Option.getD_some]
 rw [← List.getD_eq_getElem?_getD, pr1_other _ _ _ _ _ _ _ _ (by omega), pr0_other _ _ _ _ _ _ _ (by omega)]
 simp [List.getD_eq_getElem?_getD, List.getElem?_replicate]
theorem Po.last_bd {p : Int} {f : List Int} (h : Po p f) (hp : 0 < p) (h0 : 0 < f.length) : 0 < f.getD (f.length - 1) 0 ∧ f.getD (f.length - 1) 0 < p := by
 have h1 := h.inR.get hp (f.length - 1)
 rcases h.last with h2 | h2
 ·
  omega
 ·
  rw [show (f.length : Int) - 1 = ((f.length - 1 : Nat) : Int) by omega, rd_nat] at h2
  omega
theorem mulL_len_eq {p : Int} {f g : List Int} (hp : IsP p) (pf : Po p f) (pg : Po p g) (hf : 0 < f.length) (hg : 0 < g.length) : mulL p f g = mulW p f g := by
 unfold mulL
 rw [if_neg (by omega), trimL_id]
 right
 rw [mulW_len, show f.length + g.length - 1 - 1 = f.length + g.length - 2 by omega, mulW_top hf hg]
 exact mul_ne0 hp (pf.last_bd (by have := hp.1; omega) hf) (pg.last_bd (by have := hp.1; omega) hg)
def dv1 (p q : Int) (g : List Int) (a : Nat) : List Int → Nat → Nat → List Int
 | r, _, 0 => r
 | r, j, d + 1 => dv1 p q g a (r.set (a + j) ((r.getD (a + j) 0 - q * g.getD j 0) % p)) (j + 1) d
def dvR (p iv : Int) (g : List Int) : Nat → List Int → List Int → List Int × List Int
 | 0, q, r => (q, r)
 | m + 1, q, r => dvR p iv g m (q.set m (r.getD (m + g.length - 1) 0 * iv % p)) (dv1 p (r.getD (m + g.length - 1) 0 * iv % p) g m r 0 g.length)
def divL (p : Int) (f g : List Int) : List Int × List Int :=
  if f.length < g.length then ([], f) else
    ((dvR p (inv p (g.getD (g.length - 1) 0)) g (f.length - g.length + 1) (List.replicate (f.length - g.length + 1) 0) f).1,
     trimL (dvR p (inv p (g.getD (g.length - 1) 0)) g (f.length - g.length + 1) (List.replicate (f.length - g.length + 1) 0) f).2)
theorem dv1_len (p q : Int) (g : List Int) (a : Nat) : ∀ d j r, (dv1 p q g a r j d).length = r.length
 | 0, _, _ => rfl
 | d + 1, j, r => by simp [dv1, dv1_len p q g a d]
theorem dv1_inR {p : Int} (hp : 0 < p) (q : Int) (g : List Int) (a : Nat) : ∀ d j r, InR p r → InR p (dv1 p q g a r j d)
 | 0, _, _, h => h
 | d + 1, j, r, h => dv1_inR hp q g a d (j + 1) _ (h.set _ (emod_bd hp))
theorem dvR_len (p iv : Int) (g : List Int) : ∀ m q r, (dvR p iv g m q r).1.length = q.length ∧ (dvR p iv g m q r).2.length = r.length
 | 0, _, _ => ⟨rfl, rfl⟩
 | m + 1, q, r => by have := dvR_len p iv g m (q.set m (r.getD (m + g.length - 1) 0 * iv % p)) (dv1 p (r.getD (m + g.length - 1) 0 * iv % p) g m r 0 g.length); simpa [dvR, dv1_len] using this
theorem dvR_inR {p : Int} (hp : 0 < p) (iv : Int) (g : List Int) : ∀ m q r, InR p q → InR p r → InR p (dvR p iv g m q r).1 ∧ InR p (dvR p iv g m q r).2
 | 0, _, _, h, h' => ⟨h, h'⟩
 | m + 1, q, r, h, h' => dvR_inR hp iv g m _ _ (h.set _ (emod_bd hp)) (dv1_inR hp _ g m _ _ _ h')
theorem dvR_top (p iv : Int) (g : List Int) (t : Nat) : ∀ m q r, m ≤ t → (dvR p iv g m q r).1.getD t 0 = q.getD t 0
 | 0, _, _, _ => rfl
 | m + 1, q, r, h => by
  rw [dvR, dvR_top p iv g t m _ _ (by omega)]
  simp only [List.getD_eq_getElem?_getD]
  rw [List.getElem?_set_ne (by omega)]
theorem spec_dstep {p : Int} {g r q : List Int} (k a j : Nat) (n iv c : Int) (hn : n = g.length) (hp : 2 ≤ p) (hp2 : p ≤ 10007) (hj : j < g.length) (hL : a + j < r.length) (h5 : a + j ≤ 100000)
  (hb : 0 ≤ c * g.getD j 0 ∧ c * g.getD j 0 ≤ 1000700000) (ha : 0 ≤ r.getD (a + j) 0 ∧ r.getD (a + j) 0 ≤ 100000) :
  spec_l01Divide.l1 (k + 1) p g r n q iv (a : Int) c (j : Int) = spec_l01Divide.l1 k p g (r.set (a + j) ((r.getD (a + j) 0 - c * g.getD j 0) % p)) n q iv (a : Int) c ((j + 1 : Nat) : Int) := by
 subst hn
 have hw : wrap64 ((a : Int) + (j : Int)) = ((a + j : Nat) : Int) := by rw [w64 (by omega) (by omega)]; omega
 have q1 : (j : Int) < (g.length : Int) := by omega
 have q2 : (0 : Int) ≤ ((a + j : Nat) : Int) := by omega
 have q3 : ((a + j : Nat) : Int) < (r.length : Int) := by omega
 have q6 : (0 : Int) ≤ (j : Int) := by omega
 have w1 : wrap64 (c * g.getD j 0) = c * g.getD j 0 := w64 (by omega) (by omega)
 have w2 : wrap64 (r.getD (a + j) 0 - c * g.getD j 0) = r.getD (a + j) 0 - c * g.getD j 0 := w64 (by omega) (by omega)
 have w3 : wrap64 ((j : Int) + 1) = ((j + 1 : Nat) : Int) := wn (by omega)
 have w4 : spec_l01Mod.f p (r.getD (a + j) 0 - c * g.getD j 0) = some ((r.getD (a + j) 0 - c * g.getD j 0) % p) := spec_mod (by omega) (by omega)
 simp only [spec_l01Divide.l1, hw]
 rw [if_pos q1, if_pos q2, if_pos q3, if_pos q6, if_pos q1, rd_nat, rd_nat, w1, w2, w3, w4, Int.toNat_natCast, Option.bind_some]
theorem impl_dstep {p : Int} {g r q : List Int} (k a j : Nat) (hp : 2 ≤ p) (hp2 : p ≤ 10007) (hj : j < g.length) (hL : a + j < r.length) (h5 : a + j ≤ 100000) (haq : a < q.length)
  (hb : 0 ≤ q.getD a 0 * g.getD j 0 ∧ q.getD a 0 * g.getD j 0 ≤ 1000700000) (ha : 0 ≤ r.getD (a + j) 0 ∧ r.getD (a + j) 0 ≤ 100000) :
  impl_field_divide.l1 (k + 1) p g r q (a : Int) g (g.length : Int) (j : Int) = impl_field_divide.l1 k p g (r.set (a + j) ((r.getD (a + j) 0 - q.getD a 0 * g.getD j 0) % p)) q (a : Int) g (g.length : Int) ((j + 1 : Nat) : Int) := by
 have hw : wrap64 ((a : Int) + (j : Int)) = ((a + j : Nat) : Int) := by rw [w64 (by omega) (by omega)]; omega
 have q1 : (j : Int) < (g.length : Int) := by omega
 have q2 : (0 : Int) ≤ ((a + j : Nat) : Int) := by omega
 have q3 : ((a + j : Nat) : Int) < (r.length : Int) := by omega
 have q6 : (0 : Int) ≤ (j : Int) := by omega
 have q7 : (0 : Int) ≤ (a : Int) := by omega
 have q8 : (a : Int) < (q.length : Int) := by omega
 have w1 : wrap64 (q.getD a 0 * g.getD j 0) = q.getD a 0 * g.getD j 0 := w64 (by omega) (by omega)
 have w2 : wrap64 (r.getD (a + j) 0 - q.getD a 0 * g.getD j 0) = r.getD (a + j) 0 - q.getD a 0 * g.getD j 0 := w64 (by omega) (by omega)
 have w3 : wrap64 ((j : Int) + 1) = ((j + 1 : Nat) : Int) := wn (by omega)
 have w4 : impl_field_mod.f p (r.getD (a + j) 0 - q.getD a 0 * g.getD j 0) = some ((r.getD (a + j) 0 - q.getD a 0 * g.getD j 0) % p) := impl_mod (by omega) (by omega)
 simp only [impl_field_divide.l1, hw]
 rw [if_pos q1, if_pos q6, if_pos q1, if_pos q2, if_pos q3, if_pos q7, if_pos q8, rd_nat, rd_nat, rd_nat, w1, w2, w3, w4, Int.toNat_natCast, Option.bind_some]
theorem wm {m : Nat} (h : m ≤ 1000000) : wrap64 ((m : Int) - 1) = (m : Int) - 1 := w64 (by omega) (by omega)
theorem spec_divide {p : Int} {f g : List Int} (hp : 2 ≤ p) (hp2 : p ≤ 10007) (hf : f.length ≤ 1000) (hg : g.length ≤ 1000) (h0 : 0 < g.length) (rf : InR p f) (rg : InR p g) :
  Ev (fun k => spec_l01Divide.f k p f g) (trimL (divL p f g).1, (divL p f g).2) := by
 have inner : ∀ (a : Nat) (c iv : Int) (q : List Int) (res : List Int × List Int), a ≤ 1000 → 0 ≤ c ∧ c < p → ∀ d j (r : List Int), j + d = g.length → a + g.length ≤ r.length → InR p r →
   Ev (fun k => spec_l01Divide.l0 k p g (dv1 p c g a r j d) (g.length : Int) q iv ((a : Int) - 1)) res → Ev (fun k => spec_l01Divide.l1 k p g r (g.length : Int) q iv (a : Int) c (j : Int)) res := by
  intro a c iv q res ha1 hc d
  induction d with
  | zero =>
   intro j r h1 h2 h3 ⟨K, h⟩
   refine ⟨K + 1, fun k hk => ?_⟩
   obtain ⟨k, rfl⟩ : ∃ m, k = m + 1 := ⟨k - 1, by omega⟩
   have e := h k (by omega)
   simp only [dv1] at e
   simp only [spec_l01Divide.l1]
   rw [if_neg (by omega), wm (by omega), e]
  | succ d ih =>
   intro j r h1 h2 h3 h
   obtain ⟨K, h⟩ := ih (j + 1) (r.set (a + j) ((r.getD (a + j) 0 - c * g.getD j 0) % p)) (by omega) (by simpa using h2) (h3.set _ (emod_bd (by omega))) h
   refine ⟨K + 1, fun k hk => ?_⟩
   obtain ⟨k, rfl⟩ : ∃ m, k = m + 1 := ⟨k - 1, by omega⟩
   have e := h k (by omega)
   simp only at e
   have hb := mul_bd2 hp2 hc (y := g.getD j 0) (by have := rg.get (by omega) j; omega)
   have ha := h3.get (by omega) (a + j)
   exact (spec_dstep k a j _ iv c rfl hp hp2 (by omega) (by omega) (by omega) hb ⟨ha.1, by omega⟩).trans e
 have outer : ∀ (iv : Int), 0 ≤ iv ∧ iv < p → ∀ m (q r : List Int), m ≤ 1000 → m ≤ q.length → (m = 0 ∨ m + g.length - 1 ≤ r.length) → q.length ≤ 1001 → r.length ≤ 1001 → InR p q → InR p r →
   Ev (fun k => spec_l01Divide.l0 k p g r (g.length : Int) q iv ((m : Int) - 1)) (trimL (dvR p iv g m q r).1, trimL (dvR p iv g m q r).2) := by
  intro iv hiv m
  induction m with
  | zero =>
   intro q r h1 h2 h3 h4 h5 h6 h7
   obtain ⟨K, h⟩ := spec_trim q (by omega)
   obtain ⟨K', h'⟩ := spec_trim r (by omega)
   refine ⟨K + K' + 1, fun k hk => ?_⟩
   obtain ⟨k, rfl⟩ : ∃ m, k = m + 1 := ⟨k - 1, by omega⟩
   have e := h k (by omega)
   have e' := h' k (by omega)
   simp only at e e'
   simp only [spec_l01Divide.l0]
   rw [if_neg (by omega), e, Option.bind_some, e']
   rfl
  | succ m ih =>
   intro q r h1 h2 h3 h4 h5 h6 h7
   have hr := h7.get (by omega) (m + g.length - 1)
   have hb := mul_bd2 hp2 hr (y := iv) (by omega)
   have hcb := emod_bd (x := r.getD (m + g.length - 1) 0 * iv) (p := p) (by omega)
   obtain ⟨K, h⟩ := inner m _ iv (q.set m (r.getD (m + g.length - 1) 0 * iv % p)) _ (by omega) hcb g.length 0 r (by omega) (by omega) h7
    (ih (q.set m (r.getD (m + g.length - 1) 0 * iv % p)) (dv1 p (r.getD (m + g.length - 1) 0 * iv % p) g m r 0 g.length) (by omega) (by simp; omega) (by rw [dv1_len]; omega) (by simpa using h4) (by rw [dv1_len]; exact h5) (h6.set _ hcb) (dv1_inR (by omega) _ g m _ _ _ h7))
   refine ⟨K + 1, fun k hk => ?_⟩
   obtain ⟨k, rfl⟩ : ∃ m, k = m + 1 := ⟨k - 1, by omega⟩
   have e := h k (by omega)
   simp only [Int.natCast_zero] at e
   have hm : ((m + 1 : Nat) : Int) - 1 = (m : Int) := by omega
   have hw : wrap64 (wrap64 ((m : Int) + (g.length : Int)) - 1) = ((m + g.length - 1 : Nat) : Int) := by rw [w64 (x := (m : Int) + (g.length : Int)) (by omega) (by omega), w64 (by omega) (by omega)]; omega
   have q1 : (m : Int) ≥ 0 := by omega
   have q2 : (0 : Int) ≤ ((m + g.length - 1 : Nat) : Int) := by omega
   have q3 : ((m + g.length - 1 : Nat) : Int) < (r.length : Int) := by omega
   have q4 : ¬ p = 0 := by omega
   have q5 : (m : Int) < (q.length : Int) := by omega
   have w1 : wrap64 (r.getD (m + g.length - 1) 0 * iv) = r.getD (m + g.length - 1) 0 * iv := w64 (by omega) (by omega)
   simp only [spec_l01Divide.l0, hm, hw]
   rw [if_pos q1, if_pos q2, if_pos q3, if_neg q4, if_pos q1, if_pos q5, rd_nat, w1, tmod_nn hb.1, Int.toNat_natCast, e]
   rfl
 unfold divL
 by_cases hlt : f.length < g.length
 ·
  rw [if_pos hlt]
  refine ⟨0, fun k _ => ?_⟩
  simp only [spec_l01Divide.f, own_some f (by omega), Option.bind_some]
  rw [if_pos (by omega)]
  rfl
 ·
  rw [if_neg hlt]
  have hiv := inv_bd (p := p) (by omega) (g.getD (g.length - 1) 0)
  obtain ⟨K1, h1⟩ := spec_inverse (x := g.getD (g.length - 1) 0) hp hp2
  obtain ⟨K2, h2⟩ := outer _ hiv (f.length - g.length + 1) (List.replicate (f.length - g.length + 1) 0) f (by omega) (by simp) (by omega) (by simp; omega) (by omega) (InR.zeros (by omega) _) rf
  refine ⟨K1 + K2, fun k hk => ?_⟩
  have e1 := h1 k (by omega)
  have e2 := h2 k (by omega)
  simp only at e1 e2
  have a1 : wrap64 ((f.length : Int) - (g.length : Int)) = ((f.length - g.length + 1 : Nat) : Int) - 1 := by rw [w64 (by omega) (by omega)]; omega
  have a2 : wrap64 (((f.length - g.length + 1 : Nat) : Int) - 1 + 1) = ((f.length - g.length + 1 : Nat) : Int) := by rw [w64 (by omega) (by omega)]; omega
  have a3 : wrap64 ((g.length : Int) - 1) = ((g.length - 1 : Nat) : Int) := by rw [w64 (by omega) (by omega)]; omega
  have q1 : ¬ (f.length : Int) < (g.length : Int) := by omega
  have q2 : (0 : Int) ≤ ((f.length - g.length + 1 : Nat) : Int) := by omega
  have q3 : ((f.length - g.length + 1 : Nat) : Int).toNat ≤ 35184372088832 := by omega
  have q4 : (0 : Int) ≤ ((g.length - 1 : Nat) : Int) := by omega
  have q5 : ((g.length - 1 : Nat) : Int) < (g.length : Int) := by omega
  simp only [spec_l01Divide.f, own_some f (show f.length < 17592186044416 by omega), Option.bind_some, a1, a2, a3]
  rw [if_neg q1, if_pos q2, if_pos q3, if_pos q4, if_pos q5, rd_nat, e1, Option.bind_some, Int.toNat_natCast]
  exact e2
theorem impl_div {p x y : Int} (hp : 2 ≤ p) (hp2 : p ≤ 10007) (hx : 0 ≤ x ∧ x < p) (hy : 0 ≤ y ∧ y < p) : Ev (fun k => impl_field_div.f k p x y) (x * inv p y % p) := by
 obtain ⟨K, h⟩ := impl_inverse (x := y) hp hp2 hy.1 hy.2
 have hiv := inv_bd (p := p) (by omega) y
 have hb := mul_bd2 hp2 hx (y := inv p y) (by omega)
 refine ⟨K, fun k hk => ?_⟩
 have e := h k hk
 simp only at e
 have e' : impl_field_inverse.f k p y = some (inv p y) := e
 simp only [impl_field_div.f, e', Option.bind_some, impl_mul (show 0 < p by omega) (show p ≤ 1000000000 by omega) (show -9223372036854775808 ≤ x * inv p y by omega) (show x * inv p y ≤ 9223372036854775807 by omega)]
theorem impl_divide {p : Int} {f g : List Int} (hp : 2 ≤ p) (hp2 : p ≤ 10007) (hf : f.length ≤ 1000) (hg : g.length ≤ 1000) (h0 : 0 < g.length) (rf : InR p f) (rg : InR p g) :
  Ev (fun k => impl_field_divide.f k p f g) (divL p f g) := by
 have hlast := rg.get (by omega) (g.length - 1)
 obtain ⟨iv, hiv0⟩ : ∃ iv, iv = inv p (g.getD (g.length - 1) 0) := ⟨_, rfl⟩
 have hiv : 0 ≤ iv ∧ iv < p := by rw [hiv0]; exact inv_bd (by omega) _
 have inner : ∀ (a : Nat) (c : Int) (q : List Int) (res : List Int × List Int), a ≤ 1000 → a < q.length → q.getD a 0 = c → 0 ≤ c ∧ c < p → ∀ d j (r : List Int), j + d = g.length → a + g.length ≤ r.length → InR p r →
   Ev (fun k => impl_field_divide.l0 k p g (dv1 p c g a r j d) q ((a : Int) - 1)) res → Ev (fun k => impl_field_divide.l1 k p g r q (a : Int) g (g.length : Int) (j : Int)) res := by
  intro a c q res ha1 haq hqc hc d
  induction d with
  | zero =>
   intro j r h1 h2 h3 ⟨K, h⟩
   refine ⟨K + 1, fun k hk => ?_⟩
   obtain ⟨k, rfl⟩ : ∃ m, k = m + 1 := ⟨k - 1, by omega⟩
   have e := h k (by omega)
   simp only [dv1] at e
   simp only [impl_field_divide.l1]
   rw [if_neg (by omega), wm (by omega), e]
  | succ d ih =>
   intro j r h1 h2 h3 h
   obtain ⟨K, h⟩ := ih (j + 1) (r.set (a + j) ((r.getD (a + j) 0 - c * g.getD j 0) % p)) (by omega) (by simpa using h2) (h3.set _ (emod_bd (by omega))) h
   refine ⟨K + 1, fun k hk => ?_⟩
   obtain ⟨k, rfl⟩ : ∃ m, k = m + 1 := ⟨k - 1, by omega⟩
   have e := h k (by omega)
   simp only at e
   have hb := mul_bd2 hp2 hc (y := g.getD j 0) (by have := rg.get (by omega) j; omega)
   have ha := h3.get (by omega) (a + j)
   subst hqc
   exact (impl_dstep k a j hp hp2 (by omega) (by omega) (by omega) haq hb ⟨ha.1, by omega⟩).trans e
 have outer : ∀ m (q r : List Int), m ≤ 1000 → m ≤ q.length → (m = 0 ∨ m + g.length - 1 ≤ r.length) → q.length ≤ 1001 → r.length ≤ 1001 → InR p q → InR p r →
   Ev (fun k => impl_field_divide.l0 k p g r q ((m : Int) - 1)) ((dvR p iv g m q r).1, trimL (dvR p iv g m q r).2) := by
  intro m
  induction m with
  | zero =>
   intro q r h1 h2 h3 h4 h5 h6 h7
   obtain ⟨K', h'⟩ := impl_trim r (by omega)
   refine ⟨K' + 1, fun k hk => ?_⟩
   obtain ⟨k, rfl⟩ : ∃ m, k = m + 1 := ⟨k - 1, by omega⟩
   have e' := h' k (by omega)
   simp only at e'
   simp only [impl_field_divide.l0]
   rw [if_neg (by omega), e']
   rfl
  | succ m ih =>
   intro q r h1 h2 h3 h4 h5 h6 h7
   have hr := h7.get (by omega) (m + g.length - 1)
   have hcb := emod_bd (x := r.getD (m + g.length - 1) 0 * iv) (p := p) (by omega)
   obtain ⟨K0, hd⟩ := impl_div hp hp2 hr hlast
   obtain ⟨K, h⟩ := inner m _ (q.set m (r.getD (m + g.length - 1) 0 * iv % p)) _ (by omega) (by simp; omega) (by simp only [List.getD_eq_getElem?_getD]; rw [List.getElem?_set_self (by omega)]; rfl) hcb g.length 0 r (by omega) (by omega) h7
    (ih (q.set m (r.getD (m + g.length - 1) 0 * iv % p)) (dv1 p (r.getD (m + g.length - 1) 0 * iv % p) g m r 0 g.length) (by omega) (by simp; omega) (by rw [dv1_len]; omega) (by simpa using h4) (by rw [dv1_len]; exact h5) (h6.set _ hcb) (dv1_inR (by omega) _ g m _ _ _ h7))
   refine ⟨K0 + K + 1, fun k hk => ?_⟩
   obtain ⟨k, rfl⟩ : ∃ m, k = m + 1 := ⟨k - 1, by omega⟩
   have e := h k (by omega)
   have ed := hd k (by omega)
   simp only [Int.natCast_zero] at e
   simp only [← hiv0] at ed
   have hm : ((m + 1 : Nat) : Int) - 1 = (m : Int) := by omega
   have hw : wrap64 (wrap64 ((m : Int) + (g.length : Int)) - 1) = ((m + g.length - 1 : Nat) : Int) := by rw [w64 (x := (m : Int) + (g.length : Int)) (by omega) (by omega), w64 (by omega) (by omega)]; omega
   have a3 : wrap64 ((g.length : Int) - 1) = ((g.length - 1 : Nat) : Int) := by rw [w64 (by omega) (by omega)]; omega
   have q1 : (m : Int) ≥ 0 := by omega
   have q2 : (0 : Int) ≤ ((m + g.length - 1 : Nat) : Int) := by omega
   have q3 : ((m + g.length - 1 : Nat) : Int) < (r.length : Int) := by omega
   have q4 : (0 : Int) ≤ ((g.length - 1 : Nat) : Int) := by omega
   have q6 : ((g.length - 1 : Nat) : Int) < (g.length : Int) := by omega
   have q5 : (m : Int) < (q.length : Int) := by omega
   simp only [impl_field_divide.l0, hm, hw, a3]
   rw [if_pos q1, if_pos q2, if_pos q3, if_pos q4, if_pos q6, rd_nat, rd_nat, ed, Option.bind_some, if_pos q1, if_pos q5, Int.toNat_natCast, e]
   rfl
 have hcl : slices_Clone_int64_int64.f f = some f := by simp [slices_Clone_int64_int64.f, show f.length < 17592186044416 by omega]
 unfold divL
 by_cases hlt : f.length < g.length
 ·
  rw [if_pos hlt]
  refine ⟨0, fun k _ => ?_⟩
  simp only [impl_field_divide.f, hcl, Option.bind_some]
  rw [if_pos (by omega)]
 ·
  rw [if_neg hlt]
  obtain ⟨K2, h2⟩ := outer (f.length - g.length + 1) (List.replicate (f.length - g.length + 1) 0) f (by omega) (by simp) (by omega) (by simp; omega) (by omega) (InR.zeros (by omega) _) rf
  refine ⟨K2, fun k hk => ?_⟩
  have e2 := h2 k (by omega)
  simp only at e2
  have a1 : wrap64 ((f.length : Int) - (g.length : Int)) = ((f.length - g.length + 1 : Nat) : Int) - 1 := by rw [w64 (by omega) (by omega)]; omega
  have a2 : wrap64 (((f.length - g.length + 1 : Nat) : Int) - 1 + 1) = ((f.length - g.length + 1 : Nat) : Int) := by rw [w64 (by omega) (by omega)]; omega
  have q1 : ¬ (f.length : Int) < (g.length : Int) := by omega
  have q2 : (0 : Int) ≤ ((f.length - g.length + 1 : Nat) : Int) := by omega
  have q3 : ((f.length - g.length + 1 : Nat) : Int).toNat ≤ 35184372088832 := by omega
  have a4 : wrap64 (((List.replicate (f.length - g.length + 1) (0 : Int)).length : Int) - 1) = ((f.length - g.length + 1 : Nat) : Int) - 1 := by rw [List.length_replicate, wm (by omega)]
  simp only [impl_field_divide.f, hcl, Option.bind_some, a1, a2]
  rw [if_neg q1, if_pos q2, if_pos q3]
  simp only [Int.toNat_natCast, a4]
  rw [e2, hiv0]
theorem inv_ne0 {p x : Int} (hp : IsP p) (hx : 0 < x ∧ x < p) : 0 < inv p x ∧ inv p x < p := by
 have hb := inv_bd (p := p) (by have := hp.1; omega) x
 refine ⟨?_, hb.2⟩
 rcases Int.lt_or_eq_of_le hb.1 with h | h
 ·
  exact h
 ·
  exfalso
  obtain ⟨a, rfl⟩ : ∃ a : Nat, x = a := ⟨x.toNat, by omega⟩
  obtain ⟨n, hn⟩ : ∃ n : Nat, p = n := ⟨p.toNat, by have := hp.1; omega⟩
  subst hn
  have hpr : Pr n := by simpa using hp.2.2
  have hnd : ¬ n ∣ a := fun h => by have := Nat.le_of_dvd (by omega) h; omega
  apply hpr.pow hnd ((n : Int) - 2).toNat
  apply Nat.dvd_of_mod_eq_zero
  have h' : ((a ^ ((n : Int) - 2).toNat % n : Nat) : Int) = 0 := by
   have := h.symm
   unfold inv at this
   simpa using this
  omega
theorem divL_trim {p : Int} {f g : List Int} (hp : IsP p) (pf : Po p f) (pg : Po p g) (hg : 0 < g.length) : trimL (divL p f g).1 = (divL p f g).1 := by
 unfold divL
 by_cases hlt : f.length < g.length
 ·
  rw [if_pos hlt]; rfl
 ·
  rw [if_neg hlt]
  apply trimL_id
  right
  obtain ⟨m, hm⟩ : ∃ m, f.length - g.length + 1 = m + 1 := ⟨f.length - g.length, rfl⟩
  have hp0 : 0 < p := by have := hp.1; omega
  have hl := (dvR_len p (inv p (g.getD (g.length - 1) 0)) g (m + 1) (List.replicate (m + 1) 0) f).1
  simp only [hm]
  rw [hl, List.length_replicate, Nat.add_sub_cancel, dvR, dvR_top _ _ _ _ _ _ _ (Nat.le_refl m)]
  simp only [List.getD_eq_getElem?_getD]
  rw [List.getElem?_set_self (by simp)]
  simp only [Option.getD_some]
  rw [← List.getD_eq_getElem?_getD, ← List.getD_eq_getElem?_getD, show m + g.length - 1 = f.length - 1 by omega]
  exact mul_ne0 hp (pf.last_bd hp0 (by omega)) (inv_ne0 hp (pg.last_bd hp0 hg))
theorem code_cases (p : Int) (b : Bool) (ls : List (List Int)) :
  (codeL p true ls ≠ 0 ∧ codeL p b ls = codeL p true ls) ∨ (codeL p true ls = 0 ∧ b = false ∧ codeL p b ls = 2 ∧ IsP p) ∨ (codeL p true ls = 0 ∧ b = true ∧ codeL p b ls = 0 ∧ IsP p ∧ ∀ l ∈ ls, Po p l) := by
 by_cases h : codeL p true ls = 0
 ·
  obtain ⟨hp, _, hq⟩ := codeL_0 h
  cases b with
  | true => exact .inr (.inr ⟨h, rfl, h, hp, hq⟩)
  | false =>
   refine .inr (.inl ⟨h, rfl, ?_, hp⟩)
   have hall : ls.all (polyB p) = true := List.all_eq_true.2 fun l hl => polyB_iff.2 (hq l hl)
   simp [codeL, hall]
 ·
  refine .inl ⟨h, ?_⟩
  unfold codeL at h ⊢
  cases ha : ls.all (polyB p) with
  | false => simp
  | true => rw [ha] at h; cases hp : primeB p <;> simp [hp] at h ⊢
theorem in_any (x a b : Int) : spec_l01In.f x a b = some (decide (a ≤ x) && decide (x ≤ b)) := by
 unfold spec_l01In.f; by_cases h : x ≥ a
 ·
  rw [if_pos h, decide_eq_true h, Bool.true_and]
 ·
  rw [if_neg h, decide_eq_false h, Bool.false_and]
theorem in_has {p : Int} (hp : IsP p) (x : Int) : spec_l01In.f x 0 (wrap64 (p - 1)) = some (hasB p x) := by
 rw [in_any, w64 (by have := hp.1; omega) (by have := hp.2.1; omega)]; unfold hasB; congr 2; exact decide_eq_decide.2 (by omega)
theorem in_within (x a b : Int) : spec_l01In.f x a b = some (withinB x a b) := in_any x _ _
theorem _root_.Go.Proofs.Ythiignohbooelaa.Num.IsP.p2 {p : Int} (h : IsP p) : 2 ≤ p := h.1
theorem _root_.Go.Proofs.Ythiignohbooelaa.Num.IsP.pm {p : Int} (h : IsP p) : p ≤ 10007 := h.2.1
theorem _root_.Go.Proofs.Ythiignohbooelaa.Num.IsP.p0 {p : Int} (h : IsP p) : 0 < p := by have := h.1; omega
def valL (p : Int) (f : List Int) (x : Int) : Int := f.foldr (fun c o => (o * x + c) % p) 0
theorem valL_bd {p : Int} (hp : 0 < p) (f : List Int) (x : Int) : 0 ≤ valL p f x ∧ valL p f x < p := by
 cases f with
 | nil => exact ⟨Int.le_refl _, hp⟩
 | cons c f => exact emod_bd hp
theorem hor_bd {p o x c : Int} (hp2 : p ≤ 10007) (ho : 0 ≤ o ∧ o < p) (hx : 0 ≤ x ∧ x < p) (hc : 0 ≤ c ∧ c < p) : 0 ≤ o * x ∧ o * x ≤ 1000700000 ∧ 0 ≤ o * x + c ∧ o * x + c ≤ 2000000000 := by
 have := mul_bd2 hp2 ho (y := x) (by omega); omega
theorem impl_val {p x : Int} {f : List Int} (hp : 2 ≤ p) (hp2 : p ≤ 10007) (rf : InR p f) (hx : 0 ≤ x ∧ x < p) : impl_field_value.f p f x = some (valL p f x) := by
 unfold impl_field_value.f
 rw [if_neg (by omega)]
 congr 1
 induction f with
 | nil => rfl
 | cons c f ih =>
  have hc := rf c (by simp)
  have rf' : InR p f := fun y hy => rf y (by simp [hy])
  have hb := valL_bd (p := p) (by omega) f x
  have h := hor_bd hp2 hb hx hc
  rw [List.foldr_cons, ih rf', stepv, w64 (x := valL p f x * x) (by omega) (by omega), w64 (by omega) (by omega), impl_mod (by omega) (by omega)]
  rfl
theorem spec_val {p x : Int} {f : List Int} (hp : 2 ≤ p) (hp2 : p ≤ 10007) (hf : f.length ≤ 1000) (rf : InR p f) (hx : 0 ≤ x ∧ x < p) : Ev (fun k => spec_l01At.f k p f x) (valL p f x) := by
 have loop : ∀ n, n ≤ f.length → Ev (fun k => spec_l01At.l0 k p f x (valL p (f.drop n) x) ((n : Int) - 1)) (valL p f x) := by
  intro n
  induction n with
  | zero => intro _; refine Ev.succ ?_; simp (disch := omega) only [spec_l01At.l0, if_neg, List.drop_zero]; exact Ev.now _
  | succ n ih =>
   intro hn
   have hb := valL_bd (p := p) (by omega) (f.drop (n + 1)) x
   have hc := rf.get (by omega) n
   have h := hor_bd hp2 hb hx hc
   have e : valL p (f.drop n) x = (valL p (f.drop (n + 1)) x * x + f.getD n 0) % p := by
    rw [List.drop_eq_getElem_cons (show n < f.length by omega), List.getD_eq_getElem?_getD, List.getElem?_eq_getElem (show n < f.length by omega)]
    rfl
   have hi := ih (by omega)
   rw [e] at hi
   refine Ev.succ ?_
   simp (disch := omega) only [spec_l01At.l0, ws1, if_pos, if_neg, rd_n, w64, wm1, tmod_nn]
   exact hi
 have h := loop f.length (Nat.le_refl _)
 rw [List.drop_length] at h
 simp only [spec_l01At.f, wm1 (show f.length ≤ 1000000000000 by omega)]
 exact h
def co (l : List Int) (i : Nat) : Int := l.getD i 0
theorem co_ge {l : List Int} {i : Nat} (h : l.length ≤ i) : co l i = 0 := by simp [co, List.getD_eq_getElem?_getD, h]
theorem co_set (l : List Int) (i j : Nat) (x : Int) (h : i < l.length) : co (l.set i x) j = if j = i then x else co l j := by
 unfold co
 simp only [List.getD_eq_getElem?_getD]
 by_cases e : j = i
 ·
  subst e; rw [List.getElem?_set_self h, if_pos rfl]; rfl
 ·
  rw [List.getElem?_set_ne (Ne.symm e), if_neg e]
theorem co_take {l : List Int} {n i : Nat} : co (l.take n) i = if i < n then co l i else 0 := by
 unfold co
 simp only [List.getD_eq_getElem?_getD, List.getElem?_take]
 split <;> rfl
theorem InR.co {p : Int} {l : List Int} (h : InR p l) (hp : 0 < p) (i : Nat) : 0 ≤ co l i ∧ co l i < p := h.get hp i
theorem tlen_zero (l : List Int) : ∀ n i, tlen l n ≤ i → i < n → l.getD i 0 = 0
 | 0, i, _, h => by omega
 | n + 1, i, h1, h2 => by
  unfold tlen at h1
  split at h1
  ·
   rename_i h0
   by_cases e : i = n
   ·
    subst e; exact h0
   ·
    exact tlen_zero l n i h1 (by omega)
  ·
   omega
theorem tlen_last (l : List Int) : ∀ n, tlen l n = 0 ∨ l.getD (tlen l n - 1) 0 ≠ 0
 | 0 => .inl rfl
 | n + 1 => by
  unfold tlen
  split
  ·
   exact tlen_last l n
  ·
   right; simpa using ‹_›
theorem trimL_length (l : List Int) : (trimL l).length = tlen l l.length := by
 unfold trimL; rw [List.length_take, Nat.min_eq_left (tlen_le _ _)]
theorem co_trim (l : List Int) (i : Nat) : co (trimL l) i = co l i := by
 unfold trimL
 rw [co_take]
 split
 ·
  rfl
 ·
  rename_i h
  by_cases hi : i < l.length
  ·
   exact (tlen_zero l l.length i (by omega) hi).symm
  ·
   exact (co_ge (by omega)).symm
def Nz (l : List Int) : Prop := l.length = 0 ∨ co l (l.length - 1) ≠ 0
theorem Nz.trim (l : List Int) : Nz (trimL l) := by
 unfold Nz
 rw [co_trim, trimL_length]
 exact tlen_last l l.length
theorem Nz.len_le {l : List Int} (h : Nz l) {n : Nat} (hz : ∀ i, n ≤ i → co l i = 0) : l.length ≤ n := by
 rcases h with h | h
 ·
  omega
 ·
  rcases Nat.lt_or_ge n l.length with hl | hl
  ·
   exact absurd (hz _ (by omega)) h
  ·
   exact hl
theorem Nz.ext {l l' : List Int} (h : Nz l) (h' : Nz l') (he : ∀ i, co l i = co l' i) : l = l' := by
 have h1 : l.length ≤ l'.length := h.len_le fun i hi => by rw [he]; exact co_ge hi
 have h2 : l'.length ≤ l.length := h'.len_le fun i hi => by rw [← he]; exact co_ge hi
 refine List.ext_getElem (by omega) fun i a b => ?_
 have := he i
 unfold co at this
 rwa [List.getD_eq_getElem?_getD, List.getD_eq_getElem?_getD, List.getElem?_eq_getElem a, List.getElem?_eq_getElem b] at this
theorem Po.nz {p : Int} {l : List Int} (h : Po p l) : Nz l := by
 rcases h.last with h0 | h0
 ·
  exact .inl h0
 ·
  by_cases hl : l.length = 0
  ·
   exact .inl hl
  ·
   right
   unfold co
   rwa [← rd_nat, show ((l.length - 1 : Nat) : Int) = (l.length : Int) - 1 by omega]
theorem Po.of {p : Int} {l : List Int} (hl : l.length ≤ 25) (hr : InR p l) (hz : Nz l) : Po p l := by
 refine ⟨hl, hr, ?_⟩
 rcases hz with h | h
 ·
  exact .inl h
 ·
  by_cases h0 : l.length = 0
  ·
   exact .inl h0
  ·
   right
   unfold co at h
   rwa [← rd_nat, show ((l.length - 1 : Nat) : Int) = (l.length : Int) - 1 by omega] at h
theorem Nz.top {p : Int} {l : List Int} (h : Nz l) (hr : InR p l) (hp : 0 < p) (h0 : 0 < l.length) : 0 < co l (l.length - 1) ∧ co l (l.length - 1) < p := by
 have h1 := hr.co hp (l.length - 1)
 rcases h with h2 | h2
 ·
  omega
 ·
  omega
theorem inv_one {p x : Int} (hp : IsP p) (hx : 0 < x ∧ x < p) : cg p (x * inv p x) 1 := inv_cg hp (by rw [Int.emod_eq_of_lt (by omega) hx.2]; omega)
theorem dv1_get (p q : Int) (g : List Int) (a t : Nat) : ∀ d j r, a + j + d ≤ r.length → co (dv1 p q g a r j d) t = if a + j ≤ t ∧ t < a + j + d then (co r t - q * co g (t - a)) % p else co r t
 | 0, j, r, h => by rw [if_neg (by omega)]; rfl
 | d + 1, j, r, h => by
  rw [dv1, dv1_get p q g a t d (j + 1) _ (by simpa using by omega), co_set _ _ _ _ (by omega)]
  by_cases e : t = a + j
  ·
   subst e
   rw [if_neg (by omega), if_pos rfl, if_pos (by omega), show a + j - a = j by omega]
   rfl
  ·
   rw [if_neg e]
   by_cases h2 : a + (j + 1) ≤ t ∧ t < a + (j + 1) + d
   ·
    rw [if_pos h2, if_pos (by omega)]
   ·
    rw [if_neg h2, if_neg (by omega)]
def sh (g : List Int) (m t : Nat) : Int := if m ≤ t then co g (t - m) else 0
theorem dv1_cg {p : Int} (c : Int) (g r : List Int) (m t : Nat) (h : m + g.length ≤ r.length) : cg p (co r t) (co (dv1 p c g m r 0 g.length) t + c * sh g m t) := by
 rw [dv1_get p c g m t g.length 0 r (by omega)]
 unfold sh
 by_cases h1 : m + 0 ≤ t ∧ t < m + 0 + g.length
 ·
  rw [if_pos h1, if_pos (by omega)]
  have := (cg.mod p (co r t - c * co g (t - m))).symm.add (cg.refl (c * co g (t - m)))
  rwa [show co r t - c * co g (t - m) + c * co g (t - m) = co r t by omega] at this
 ·
  rw [if_neg h1]
  by_cases h2 : m ≤ t
  ·
   rw [if_pos h2, co_ge (show g.length ≤ t - m by omega), Int.mul_zero, Int.add_zero]; exact cg.refl _
  ·
   rw [if_neg h2, Int.mul_zero, Int.add_zero]; exact cg.refl _
theorem dvR_cg (p iv : Int) (g : List Int) (t : Nat) : ∀ m (q r : List Int), (m = 0 ∨ m + g.length ≤ r.length + 1) → m ≤ q.length →
  cg p (co r t) (co (dvR p iv g m q r).2 t + su (fun i => co (dvR p iv g m q r).1 i * sh g i t) m)
 | 0, q, r, _, _ => by simp only [dvR, su, Int.add_zero]; exact cg.refl _
 | m + 1, q, r, h, hq => by
  rw [dvR]
  have hq2 := dvR_top p iv g m m (q.set m (r.getD (m + g.length - 1) 0 * iv % p)) (dv1 p (r.getD (m + g.length - 1) 0 * iv % p) g m r 0 g.length) (Nat.le_refl m)
  have hc : co (q.set m (r.getD (m + g.length - 1) 0 * iv % p)) m = r.getD (m + g.length - 1) 0 * iv % p := by rw [co_set _ _ _ _ (by omega), if_pos rfl]
  have ih := dvR_cg p iv g t m (q.set m (r.getD (m + g.length - 1) 0 * iv % p)) (dv1 p (r.getD (m + g.length - 1) 0 * iv % p) g m r 0 g.length) (by rw [dv1_len]; omega) (by simp; omega)
  have h1 := dv1_cg (p := p) (r.getD (m + g.length - 1) 0 * iv % p) g r m t (by omega)
  refine h1.trans ?_
  rw [su]
  have e : co (dvR p iv g m (q.set m (r.getD (m + g.length - 1) 0 * iv % p)) (dv1 p (r.getD (m + g.length - 1) 0 * iv % p) g m r 0 g.length)).1 m = r.getD (m + g.length - 1) 0 * iv % p := hq2.trans hc
  rw [e]
  have := ih.add (cg.refl (r.getD (m + g.length - 1) 0 * iv % p * sh g m t))
  rwa [Int.add_assoc] at this
theorem dvR_high {p iv : Int} (g : List Int) (h0 : 0 < g.length) (hp : 0 < p) (hiv : cg p (co g (g.length - 1) * iv) 1) : ∀ m (q r : List Int), (m = 0 ∨ m + g.length ≤ r.length + 1) → InR p r → (∀ t, m + g.length - 1 ≤ t → co r t = 0) →
  ∀ t, g.length - 1 ≤ t → co (dvR p iv g m q r).2 t = 0
 | 0, q, r, _, _, hz, t, ht => hz t (by omega)
 | m + 1, q, r, h, hr, hz, t, ht => by
  rw [dvR]
  refine dvR_high g h0 hp hiv m _ _ (by rw [dv1_len]; omega) (dv1_inR hp _ g m _ _ _ hr) (fun t ht => ?_) t ht
  rw [dv1_get _ _ _ _ _ _ _ _ (by omega)]
  by_cases e : t = m + g.length - 1
  ·
   subst e
   rw [if_pos (by omega), show m + g.length - 1 - m = g.length - 1 by omega]
   have h1 : cg p (co r (m + g.length - 1) * iv % p * co g (g.length - 1)) (co r (m + g.length - 1)) := by
    refine ((cg.mod _ _).mul (cg.refl _)).trans ?_
    have := (cg.refl (co r (m + g.length - 1))).mul hiv
    rw [Int.mul_one] at this
    refine (cg.of_eq ?_).trans this
    rw [Int.mul_assoc, Int.mul_comm iv]
   have h2 := (cg.refl (co r (m + g.length - 1))).sub h1
   rw [Int.sub_self] at h2
   exact cg.zero.1 h2
  ·
   rw [if_neg (by omega)]
   exact hz t (by omega)
theorem divL_facts {p : Int} {f g : List Int} (hp : IsP p) (rf : InR p f) (rg : InR p g) (zg : Nz g) (h0 : 0 < g.length) :
  (∀ t, cg p (co f t) (cv (co (divL p f g).1) (co g) t + co (divL p f g).2 t)) ∧ (Nz f → (divL p f g).2.length < g.length) ∧ (Nz f → Nz (divL p f g).2) ∧ InR p (divL p f g).1 ∧ InR p (divL p f g).2 ∧ (divL p f g).1.length = f.length + 1 - g.length := by
 have hiv := inv_one hp (zg.top rg hp.p0 h0)
 have hib := inv_bd hp.p0 (co g (g.length - 1))
 unfold divL
 by_cases hlt : f.length < g.length
 ·
  rw [if_pos hlt]
  refine ⟨fun t => ?_, fun _ => hlt, fun h => h, InR.nil, rf, by simp; omega⟩
  have : cv (co []) (co g) t = 0 := su_zero fun i _ => by rw [co_ge (by simp), Int.zero_mul]
  simp only [this, Int.zero_add]
  exact cg.refl _
 ·
  rw [if_neg hlt]
  have hl := dvR_len p (inv p (g.getD (g.length - 1) 0)) g (f.length - g.length + 1) (List.replicate (f.length - g.length + 1) 0) f
  have hr := dvR_inR hp.p0 (inv p (g.getD (g.length - 1) 0)) g (f.length - g.length + 1) (List.replicate (f.length - g.length + 1) 0) f (InR.zeros hp.p0 _) rf
  have hhigh := dvR_high (p := p) (iv := inv p (g.getD (g.length - 1) 0)) g h0 hp.p0 hiv (f.length - g.length + 1) (List.replicate (f.length - g.length + 1) 0) f (by omega) rf (fun t ht => co_ge (by omega))
  refine ⟨fun t => ?_, fun _ => ?_, fun _ => Nz.trim _, hr.1, hr.2.trim, by rw [hl.1, List.length_replicate]; omega⟩
  ·
   have h := dvR_cg p (inv p (g.getD (g.length - 1) 0)) g t (f.length - g.length + 1) (List.replicate (f.length - g.length + 1) 0) f (by omega) (by simp)
   simp only
   rw [co_trim, Int.add_comm]
   refine h.trans ((cg.refl _).add (cg.of_eq ?_))
   generalize hq : (dvR p (inv p (g.getD (g.length - 1) 0)) g (f.length - g.length + 1) (List.replicate (f.length - g.length + 1) 0) f).1 = q at hl ⊢
   have hql : q.length = f.length - g.length + 1 := by rw [hl.1, List.length_replicate]
   have e1 : su (fun i => co q i * sh g i t) (f.length - g.length + 1) = su (fun i => co q i * sh g i t) (max (f.length - g.length + 1) (t + 1)) :=
    (su_ext (Nat.le_max_left _ _) fun i hi _ => by rw [co_ge (by omega), Int.zero_mul]).symm
   have e2 : su (fun i => co q i * sh g i t) (max (f.length - g.length + 1) (t + 1)) = su (fun i => co q i * sh g i t) (t + 1) :=
    su_ext (Nat.le_max_right _ _) fun i hi _ => by unfold sh; rw [if_neg (by omega), Int.mul_zero]
   rw [e1, e2]
   exact su_congr fun i hi => by unfold sh; rw [if_pos (by omega)]
  ·
   have h1 : (trimL (dvR p (inv p (g.getD (g.length - 1) 0)) g (f.length - g.length + 1) (List.replicate (f.length - g.length + 1) 0) f).2).length ≤ g.length - 1 :=
    (Nz.trim _).len_le fun i hi => by rw [co_trim]; exact hhigh i hi
   simp only
   omega
theorem monicL_len (p : Int) (f : List Int) : (monicL p f).length ≤ f.length := by have := addL_len p [] f (inv p (rd f ((f.length : Int) - 1))); simpa [monicL] using this
theorem u64_small (n : Int) (h₀ : 0 ≤ n) (h₁ : n < 2 ^ 63) : IntKind.u64.wrap n = n := by rw [IntKind.wrap_u64]; omega
theorem draw_bits (x : Int) : 0 ≤ Go.bits .and .u64 (IntKind.u64.wrap x / 8589934592) 16777215 ∧ Go.bits .and .u64 (IntKind.u64.wrap x / 8589934592) 16777215 < 16777216 := by
 have e : IntKind.u64.wrap x = x % 18446744073709551616 := IntKind.wrap_u64 x
 rw [e]
 have h := bits_mask .u64 63 (by decide) u64_small 24 (by decide) (x % 18446744073709551616 / 8589934592) (by omega) (by omega)
 have e2 : (2 : Int) ^ 24 - 1 = 16777215 := by decide
 have e3 : (2 : Int) ^ 24 = 16777216 := by decide
 rw [e2, e3] at h
 rw [h]; omega
def Bytes (l : List Int) : Prop := l.length ≤ 1000000 ∧ ∀ x ∈ l, 0 ≤ x ∧ x ≤ 255
theorem byte_rd {l : List Int} (h : Bytes l) (i : Int) : 0 ≤ rd l i ∧ rd l i ≤ 255 := by
 unfold rd
 rw [List.getD_eq_getElem?_getD]
 cases hx : l[i.toNat]? with
 | none => simp
 | some x => simpa using h.2 x (List.mem_of_getElem? hx)
theorem draw_next {l : List Int} (hb : Bytes l) {i : Int} (h0 : 0 ≤ i) (h1 : i ≤ l.length) (s n : Int) :
  ∃ v j t : Int, spec_l01Next.f l i s n = some (v, j, t) ∧ 0 ≤ j ∧ j ≤ l.length ∧ 0 ≤ v ∧ (1 ≤ n → v < n) := by
 unfold spec_l01Next.f
 obtain ⟨b0, b1⟩ := draw_bits (IntKind.u64.wrap (s * 6364136223846793005) + 1442695040888963407)
 generalize Go.bits .and .u64 (IntKind.u64.wrap (IntKind.u64.wrap (s * 6364136223846793005) + 1442695040888963407) / 8589934592) 16777215 = b at b0 b1 ⊢
 have hl := hb.1
 have hw : wrap64 b = b := w64 (by omega) (by omega)
 by_cases c1 : n < 1
 ·
  exact ⟨0, i, s, by rw [if_pos c1], h0, h1, by omega, by omega⟩
 ·
  by_cases c2 : i < l.length
  ·
   obtain ⟨r0, r1⟩ := byte_rd hb i
   have hw2 : wrap64 (rd l i) = rd l i := w64 (by omega) (by omega)
   have hw3 : wrap64 (b + rd l i) = b + rd l i := w64 (by omega) (by omega)
   have hw4 : wrap64 (i + 1) = i + 1 := w64 (by omega) (by omega)
   refine ⟨Int.tmod (b + rd l i) n, i + 1, _, by rw [if_neg c1, if_pos c2, if_pos h0, if_neg (show ¬ n = 0 by omega), hw, hw2, hw3, hw4], by omega, by omega, ?_, fun _ => ?_⟩
   ·
    rw [tmod_nn (by omega)]; exact Int.emod_nonneg _ (by omega)
   ·
    rw [tmod_nn (by omega)]; exact Int.emod_lt_of_pos _ (by omega)
  ·
   refine ⟨Int.tmod b n, i, _, by rw [if_neg c1, if_neg c2, if_neg (show ¬ n = 0 by omega), hw], h0, h1, ?_, fun _ => ?_⟩
   ·
    rw [tmod_nn b0]; exact Int.emod_nonneg _ (by omega)
   ·
    rw [tmod_nn b0]; exact Int.emod_lt_of_pos _ (by omega)
theorem draw_pick {l : List Int} (hb : Bytes l) {i : Int} (h0 : 0 ≤ i) (h1 : i ≤ l.length) (s : Int) (c : List Int) (hc : 0 < c.length) :
  ∃ v j t : Int, spec_l01Pick.f l i s c = some (v, j, t) ∧ 0 ≤ j ∧ j ≤ l.length ∧ v ∈ c := by
 obtain ⟨v, j, t, e, j0, j1, v0, v1⟩ := draw_next hb h0 h1 s (c.length : Int)
 have v2 := v1 (by omega)
 obtain ⟨m, rfl⟩ : ∃ m : Nat, v = (m : Int) := ⟨v.toNat, by omega⟩
 refine ⟨c[m]'(by omega), j, t, ?_, j0, j1, List.getElem_mem _⟩
 simp only [spec_l01Pick.f, e, Option.bind_some, if_pos v0, if_pos v2, rd_lt c m (by omega)]
theorem draw_prime {l : List Int} (hb : Bytes l) {i : Int} (h0 : 0 ≤ i) (h1 : i ≤ l.length) (s : Int) :
  ∃ v j t : Int, spec_l01DrawPrime.f l i s = some (v, j, t) ∧ 0 ≤ j ∧ j ≤ l.length ∧ v ∈ ([2, 3, 5, 7, 7, 11, 13, 17, 31, 101, 997, 10007] : List Int) := by
 obtain ⟨v, j, t, e, r⟩ := draw_pick hb h0 h1 s ([2, 3, 5, 7, 7, 11, 13, 17, 31, 101, 997, 10007] : List Int) (by simp)
 exact ⟨v, j, t, by simp only [spec_l01DrawPrime.f, e, Option.bind_some], r⟩
theorem draw_near {l : List Int} (hb : Bytes l) {i : Int} (h0 : 0 ≤ i) (h1 : i ≤ l.length) (s n : Int) :
  ∃ v j t : Int, spec_l01Near.f l i s n = some (v, j, t) ∧ 0 ≤ j ∧ j ≤ l.length := by
 obtain ⟨v, j, t, e, j0, j1, _⟩ := draw_next hb h0 h1 s 14
 obtain ⟨v', j', t', e', j0', j1', _⟩ := draw_pick hb j0 j1 t ([(-1), wrap64 (n + 1), 1099511627776, (-4611686018427387904)] : List Int) (by simp)
 obtain ⟨v2, j2, t2, e2, j02, j12, _⟩ := draw_next hb j0 j1 t (wrap64 (n + 1))
 by_cases hv : v = 0
 ·
  exact ⟨v', j', t', by simp only [spec_l01Near.f, e, Option.bind_some, if_pos hv, e'], j0', j1'⟩
 ·
  exact ⟨v2, j2, t2, by simp only [spec_l01Near.f, e, Option.bind_some, if_neg hv, e2], j02, j12⟩
theorem draw_from (l : List Int) (hl : l.length ≤ 1000000) : ∃ s : Int, Ev (fun k => spec_l01From.f k l) (l, 0, s) := by
 have loop : ∀ d i : Nat, i + d = l.length → ∀ s : Int, ∃ t : Int, Ev (fun k => spec_l01From.l0 k l (i : Int) l 0 s) (l, 0, t) := by
  intro d
  induction d with
  | zero => intro i h s; exact ⟨s, by refine Ev.succ ?_; simp (disch := omega) only [spec_l01From.l0, if_neg]; exact Ev.now _⟩
  | succ d ih =>
   intro i h s
   by_cases c : (i : Int) < 4096
   ·
    obtain ⟨t, ht⟩ := ih (i + 1) (by omega) (IntKind.u64.wrap ((IntKind.u64.wrap ((IntKind.u64.wrap (s * 1099511628211)) + (IntKind.u64.wrap (rd l (i : Int))))) + 103))
    refine ⟨t, Ev.succ ?_⟩
    simp (disch := omega) only [spec_l01From.l0, if_pos, wp1]; exact ht
   ·
    exact ⟨s, by refine Ev.succ ?_; simp (disch := omega) only [spec_l01From.l0, if_pos, if_neg]; exact Ev.now _⟩
 simp only [spec_l01From.f]
 exact loop l.length 0 (by omega) _
theorem draw_list0 {l : List Int} (hb : Bytes l) (p c : Int) (hp : 1 ≤ p) : ∀ (d : Nat) (out : List Int) (i s : Int), 0 ≤ i → i ≤ l.length → d ≤ 1000 → out.length ≤ 1000000 - d → InR p out →
  ∃ (r : List Int) (j t : Int), Ev (fun k => spec_l01DrawList.l0 k p (d : Int) out c l i s) (r, j, t) ∧ 0 ≤ j ∧ j ≤ l.length ∧ r.length = out.length + d ∧ InR p r := by
 intro d
 induction d with
 | zero =>
  intro out i s h0 h1 hd hl hr
  refine ⟨out, i, s, Ev.succ ?_, h0, h1, by omega, hr⟩
  simp (disch := omega) only [spec_l01DrawList.l0, if_neg]; exact Ev.now _
 | succ d ih =>
  intro out i s h0 h1 hd hl hr
  have q1 : ((d + 1 : Nat) : Int) > 0 := by omega
  have q2 : out.length < 17592186044416 := by omega
  have q3 : wrap64 (((d + 1 : Nat) : Int) - 1) = (d : Int) := by rw [w64 (by omega) (by omega)]; omega
  have put : ∀ (x : Int) (i s : Int), 0 ≤ i → i ≤ l.length → 0 ≤ x ∧ x < p → ∃ (r : List Int) (j t : Int), Ev (fun k => spec_l01DrawList.l0 k p (d : Int) (out ++ [x]) c l i s) (r, j, t) ∧ 0 ≤ j ∧ j ≤ l.length ∧ r.length = out.length + (d + 1) ∧ InR p r := fun x i s h0 h1 hx => by
   obtain ⟨r, j, t, e, j0, j1, e2, e3⟩ := ih (out ++ [x]) i s h0 h1 (by omega) (by simp; omega) (hr.append (InR.one hx))
   exact ⟨r, j, t, e, j0, j1, by rw [e2]; simp; omega, e3⟩
  by_cases hc : c = 0
  ·
   obtain ⟨v, j, t, e, j0, j1, v0, v1⟩ := draw_next hb h0 h1 s p
   obtain ⟨r, j', t', e', rest⟩ := put v j t j0 j1 ⟨v0, v1 hp⟩
   refine ⟨r, j', t', Ev.succ ?_, rest⟩
   simp only [spec_l01DrawList.l0, if_pos q1, if_pos hc, e, Option.bind_some, if_pos q2, q3]; exact e'
  ·
   obtain ⟨v, j, t, e, j0, j1, v0, v1⟩ := draw_next hb h0 h1 s 3
   by_cases hv : v > 0
   ·
    obtain ⟨v', j', t', e', j0', j1', v0', v1'⟩ := draw_next hb j0 j1 t p
    obtain ⟨r, j2, t2, e2, rest⟩ := put v' j' t' j0' j1' ⟨v0', v1' hp⟩
    refine ⟨r, j2, t2, Ev.succ ?_, rest⟩
    simp only [spec_l01DrawList.l0, if_pos q1, if_neg hc, e, Option.bind_some, if_pos hv, e', if_pos q2, q3]; exact e2
   ·
    obtain ⟨r, j2, t2, e2, rest⟩ := put 0 j t j0 j1 ⟨Int.le_refl 0, by omega⟩
    refine ⟨r, j2, t2, Ev.succ ?_, rest⟩
    simp only [spec_l01DrawList.l0, if_pos q1, if_neg hc, e, Option.bind_some, if_neg hv, if_pos q2, q3]; exact e2
theorem draw_poly {l : List Int} (hb : Bytes l) {p n i : Int} (hp : 1 ≤ p) (n0 : 0 ≤ n) (n1 : n ≤ 100) (h0 : 0 ≤ i) (h1 : i ≤ l.length) (s : Int) :
  ∃ (r : List Int) (j t : Int), Ev (fun k => spec_l01DrawPoly.f k l i s p n) (r, j, t) ∧ 0 ≤ j ∧ j ≤ l.length ∧ r.length ≤ 102 ∧ InR p r := by
 have hw : wrap64 (n + 2) = n + 2 := w64 (by omega) (by omega)
 obtain ⟨v, j, t, e, j0, j1, v0, v1⟩ := draw_next hb h0 h1 s (n + 2)
 have v2 := v1 (by omega)
 obtain ⟨m, rfl⟩ : ∃ m : Nat, v = (m : Int) := ⟨v.toNat, by omega⟩
 obtain ⟨c, j', t', e', j0', j1', _⟩ := draw_next hb j0 j1 t 3
 obtain ⟨r, j2, t2, e2, j02, j12, e3, e4⟩ := draw_list0 hb p c hp m [] j' t' j0' j1' (by omega) (by simp) InR.nil
 simp only [List.length_nil] at e3
 have ht := trimL_len r
 refine ⟨trimL r, j2, t2, ?_, j02, j12, by omega, e4.trim⟩
 simp only [spec_l01DrawPoly.f, hw, e, Option.bind_some]
 refine Ev.bind (show Ev (fun k => spec_l01DrawList.f k l j t p (m : Int)) (r, j2, t2) from ?_) ?_
 ·
  simp only [spec_l01DrawList.f, e', Option.bind_some]; exact e2
 ·
  exact Ev.bind (spec_trim r (by omega)) (Ev.now _)
theorem impl_deg (l : List Int) (h : l.length ≤ 1000000000000) : impl_degree.f l = some ((l.length : Int) - 1) := by
 simp (disch := omega) only [impl_degree.f, impl_length_int64.f, Option.bind_some, w64]
def fillL (c : Int) (ls : List (List Int)) : Int := if c = 0 then (if ls.all (fun l => decide (0 < l.length)) = true then 0 else 5) else c
theorem fill_loop (ls : List (List Int)) (hl : ls.length ≤ 1000000) : ∀ (d i : Nat), i + d = ls.length → Ev (fun k => spec_l06Code.l0 k ls (i : Int)) (if (ls.drop i).all (fun l => decide (0 < l.length)) = true then 0 else 5) := by
 intro d
 induction d with
 | zero => intro i h; refine Ev.succ ?_; simp (disch := omega) only [spec_l06Code.l0, if_neg, List.drop_of_length_le]; exact Ev.now _
 | succ d ih =>
  intro i h
  have hi := ih (i + 1) (by omega)
  have hrd : rd_L2 ls (i : Int) = ls[i]'(by omega) := by simp [rd_L2, List.getD_eq_getElem?_getD, show i < ls.length by omega]
  refine Ev.succ ?_
  rw [List.drop_eq_getElem_cons (show i < ls.length by omega)]
  simp (disch := omega) only [spec_l06Code.l0, if_pos, hrd, wp1, List.all_cons]
  by_cases h0 : (ls[i]'(by omega)).length = 0
  ·
   have h1 : (((ls[i]'(by omega)).length : Nat) : Int) = 0 := by omega
   simp only [h1, if_true, h0, Nat.lt_irrefl, decide_false, Bool.false_and, Bool.false_eq_true, if_false]
   exact Ev.now _
  ·
   have h1 : ¬ (((ls[i]'(by omega)).length : Nat) : Int) = 0 := by omega
   simp only [if_neg h1, decide_eq_true (show 0 < (ls[i]'(by omega)).length by omega), Bool.true_and]
   exact hi
theorem spec_code6 (p : Int) (ls : List (List Int)) (hl : ls.length ≤ 1000000) (hls : ∀ l ∈ ls, l.length ≤ 1000000000) : Ev (fun k => spec_l06Code.f k p ls) (fillL (codeL p true ls) ls) := by
 have h1 := spec_code p ls hl hls
 have h2 := fill_loop ls hl ls.length 0 (by omega)
 simp only [spec_l06Code.f, fillL]
 refine Ev.bind h1 ?_
 by_cases h : codeL p true ls = 0
 ·
  simp only [h, if_true]; exact h2
 ·
  simp only [if_neg h]; exact Ev.now _
theorem impl_fill1 (p : Int) (b : Bool) (l : List Int) : Ev (fun k => impl_filledCode_1.f k p b l) (fillL (codeL p b [l]) [l]) := by
 simp only [impl_filledCode_1.f]
 refine Ev.bind (impl_code1 p b l) ?_
 simp only [fillL, List.all_cons, List.all_nil, Bool.and_true]
 exact Ev.now _
theorem fillL_0 {p : Int} {b : Bool} {ls : List (List Int)} (h : fillL (codeL p b ls) ls = 0) : IsP p ∧ b = true ∧ ∀ l ∈ ls, Po p l ∧ 0 < l.length := by
 unfold fillL at h
 split at h
 ·
  rename_i hc
  split at h
  ·
   rename_i ha
   obtain ⟨h1, h2, h3⟩ := codeL_0 hc
   exact ⟨h1, h2, fun l hl => ⟨h3 l hl, of_decide_eq_true (List.all_eq_true.1 ha l hl)⟩⟩
  ·
   cases h
 ·
  rename_i hc; exact absurd h hc
def rts (p : Int) (f : List Int) (i : Nat) : List Int := ((List.range i).map (fun (n : Nat) => (n : Int))).filter (fun x => decide (valL p f x = 0))
def rootsL (p : Int) (f : List Int) : List Int := rts p f p.toNat
theorem rts_succ (p : Int) (f : List Int) (i : Nat) : rts p f (i + 1) = if valL p f i = 0 then rts p f i ++ [(i : Int)] else rts p f i := by
 unfold rts
 rw [List.range_succ, List.map_append, List.filter_append]
 by_cases h : valL p f i = 0 <;> simp [h]
theorem rts_len (p : Int) (f : List Int) (i : Nat) : (rts p f i).length ≤ i := by
 unfold rts
 refine Nat.le_trans (List.length_filter_le _ _) ?_
 simp
theorem spec_roots {p : Int} {f : List Int} (hp : 2 ≤ p) (hp2 : p ≤ 10007) (hf : f.length ≤ 1000) (rf : InR p f) : Ev (fun k => spec_l06Roots.f k p f) (rootsL p f) := by
 have loop : ∀ (d i : Nat), i + d = p.toNat → Ev (fun k => spec_l06Roots.l0 k p f (rts p f i) (i : Int)) (rootsL p f) := by
  intro d
  induction d with
  | zero => intro i h; refine Ev.succ ?_; simp (disch := omega) only [spec_l06Roots.l0, if_neg]; rw [show i = p.toNat by omega]; exact Ev.now _
  | succ d ih =>
   intro i h
   have hi := ih (i + 1) (by omega)
   have hv := spec_val (x := i) hp hp2 hf rf (by omega)
   have hl := rts_len p f i
   rw [rts_succ] at hi
   refine Ev.succ ?_
   simp (disch := omega) only [spec_l06Roots.l0, if_pos, wp1]
   refine Ev.bind hv ?_
   by_cases h0 : valL p f i = 0
   ·
    simp (disch := omega) only [if_pos h0, if_pos]; rw [if_pos h0] at hi; exact hi
   ·
    simp only [if_neg h0]; rw [if_neg h0] at hi; exact hi
 have h := loop p.toNat 0 (by omega)
 simp only [spec_l06Roots.f]
 exact h
theorem impl_roots {p : Int} {f : List Int} (hp : 2 ≤ p) (hp2 : p ≤ 10007) (hf : f.length ≤ 1000) (rf : InR p f) : Ev (fun k => impl_field_roots.f k p f) (rootsL p f) := by
 have loop : ∀ (d i : Nat), i + d = p.toNat → Ev (fun k => impl_field_roots.l0 k p f (rts p f i) p (i : Int)) (rootsL p f) := by
  intro d
  induction d with
  | zero => intro i h; refine Ev.succ ?_; simp (disch := omega) only [impl_field_roots.l0, if_neg]; rw [show i = p.toNat by omega]; exact Ev.now _
  | succ d ih =>
   intro i h
   have hi := ih (i + 1) (by omega)
   have hv := impl_val (x := i) (f := f) hp hp2 rf (by omega)
   have hl := rts_len p f i
   rw [rts_succ] at hi
   refine Ev.succ ?_
   simp (disch := omega) only [impl_field_roots.l0, if_pos, wp1, hv, Option.bind_some]
   by_cases h0 : valL p f i = 0
   ·
    simp (disch := omega) only [if_pos h0, if_pos]; rw [if_pos h0] at hi; exact hi
   ·
    simp only [if_neg h0]; rw [if_neg h0] at hi; exact hi
 have h := loop p.toNat 0 (by omega)
 simp only [impl_field_roots.f]
 exact h
theorem rootsL_len {p : Int} (hp : 0 < p) (hp2 : p ≤ 10007) (f : List Int) : (rootsL p f).length ≤ 10007 := by
 have := rts_len p f p.toNat; unfold rootsL; omega
def ofL (p : Int) (l : List Int) : Nat → List Int
 | 0 => [1]
 | n + 1 => mulL p (ofL p l n) [(-(l.getD n 0)) % p, 1]
theorem ofL_len (p : Int) (l : List Int) : ∀ n, (ofL p l n).length ≤ n + 1
 | 0 => by simp [ofL]
 | n + 1 => by
  have h := mulL_len p (ofL p l n) [(-(l.getD n 0)) % p, 1]
  have := ofL_len p l n
  simp only [List.length_cons, List.length_nil] at h
  simp only [ofL]; omega
theorem ofL_inR {p : Int} (hp : 2 ≤ p) (l : List Int) : ∀ n, InR p (ofL p l n)
 | 0 => InR.one (by omega)
 | n + 1 => mulL_inR (by omega) _ _
theorem lin_inR {p : Int} (hp : 2 ≤ p) (r : Int) : InR p [(-r) % p, 1] := fun y hy => by
 rcases List.mem_cons.1 hy with rfl | hy
 ·
  exact emod_bd (by omega)
 ·
  rw [List.mem_singleton.1 hy]; omega
def mulF (p r : Int) : Nat → List Int → Nat
 | 0, _ => 0
 | n + 1, f => if valL p f r = 0 then mulF p r n (divL p f [(-r) % p, 1]).1 + 1 else 0
def multL (p : Int) (f : List Int) (r : Int) : Nat := mulF p r f.length f
theorem lin_nz (p r : Int) : Nz [(-r) % p, 1] := .inr (by simp [co])
theorem divL_po {p r : Int} {f : List Int} (hp : IsP p) (pf : Po p f) (h2 : 2 ≤ f.length) : Po p (divL p f [(-r) % p, 1]).1 ∧ (divL p f [(-r) % p, 1]).1.length = f.length - 1 := by
 have hg : Po p [(-r) % p, 1] := Po.of (by simp) (lin_inR hp.p2 r) (lin_nz p r)
 obtain ⟨_, _, _, d4, _, d6⟩ := divL_facts (f := f) hp pf.inR hg.inR hg.nz (by simp)
 have hl : (divL p f [(-r) % p, 1]).1.length = f.length - 1 := by rw [d6]; simp
 have ht := divL_trim hp pf hg (by simp)
 exact ⟨Po.of (by have := pf.len; omega) d4 (ht ▸ Nz.trim _), hl⟩
theorem valL_one {p r : Int} {f : List Int} (hp : 0 < p) (pf : Po p f) (h0 : 0 < f.length) (hv : valL p f r = 0) : 2 ≤ f.length := by
 rcases Nat.lt_or_ge f.length 2 with h | h
 ·
  obtain ⟨c, rfl⟩ : ∃ c, f = [c] := List.length_eq_one_iff.1 (by omega)
  have hc := pf.inR c (by simp)
  have ht := pf.nz.top pf.inR hp (by simp)
  simp [valL, co] at hv ht
  rw [Int.emod_eq_of_lt hc.1 hc.2] at hv
  omega
 ·
  exact h
theorem mulF_le (p r : Int) : ∀ n f, mulF p r n f ≤ n
 | 0, _ => Nat.le_refl _
 | n + 1, f => by unfold mulF; split; (have := mulF_le p r n (divL p f [(-r) % p, 1]).1; omega); omega
theorem mult_loops {p r : Int} (hp : IsP p) (hr : 0 ≤ r ∧ r < p) : ∀ (n : Nat) (f : List Int) (k0 : Nat), Po p f → 0 < f.length → f.length ≤ n → k0 + n ≤ 1000000 →
  Ev (fun k => spec_l06Multiplicity.l0 k p f r (k0 : Int) [(-r) % p, 1]) ((k0 + mulF p r n f : Nat) : Int) ∧ Ev (fun k => impl_field_multiplicity.l0 k p f r (k0 : Int)) ((k0 + mulF p r n f : Nat) : Int)
 | 0, f, k0, _, h, hn, _ => by omega
 | n + 1, f, k0, pf, h0, hn, hk => by
  have lf := pf.len
  have hv := spec_val (x := r) hp.p2 hp.pm (by omega) pf.inR hr
  have hi := impl_val (x := r) hp.p2 hp.pm pf.inR hr
  have hneg : wrap64 (-r) = -r := w64 (by have := hp.pm; omega) (by omega)
  rw [mulF]
  by_cases hz : valL p f r = 0
  ·
   have h2 := valL_one hp.p0 pf h0 hz
   obtain ⟨q1, q2⟩ := divL_po (r := r) hp pf h2
   have hg : Po p [(-r) % p, 1] := Po.of (by simp) (lin_inR hp.p2 r) (lin_nz p r)
   obtain ⟨a, b⟩ := mult_loops hp hr n (divL p f [(-r) % p, 1]).1 (k0 + 1) q1 (by omega) (by omega) (by omega)
   have hs := spec_divide hp.p2 hp.pm (f := f) (g := [(-r) % p, 1]) (by omega) (by simp) (by simp) pf.inR hg.inR
   have hm := impl_divide hp.p2 hp.pm (f := f) (g := [(-r) % p, 1]) (by omega) (by simp) (by simp) pf.inR hg.inR
   rw [divL_trim hp pf hg (by simp)] at hs
   rw [if_pos hz, show k0 + (mulF p r n (divL p f [(-r) % p, 1]).1 + 1) = k0 + 1 + mulF p r n (divL p f [(-r) % p, 1]).1 by omega]
   refine ⟨?_, ?_⟩
   ·
    refine Ev.succ ?_
    simp only [spec_l06Multiplicity.l0]
    refine Ev.bind hv ?_
    simp only [if_pos hz]
    refine Ev.bind hs ?_
    simp only [wp1 (show k0 ≤ 1000000000000 by omega)]
    exact a
   ·
    refine Ev.succ ?_
    simp (disch := omega) only [impl_field_multiplicity.l0, if_pos, hi, Option.bind_some]
    refine Ev.succ ?_
    simp only [impl_field_multiplicity.j1, hz, beq_self_eq_true, if_true, hneg, impl_mod hp.p0 (show p ≤ 1000000000 by have := hp.pm; omega), Option.bind_some]
    refine Ev.bind hm ?_
    simp only [wp1 (show k0 ≤ 1000000000000 by omega)]
    exact b
  ·
   rw [if_neg hz]
   refine ⟨?_, ?_⟩
   ·
    refine Ev.succ ?_
    simp only [spec_l06Multiplicity.l0]
    refine Ev.bind hv ?_
    simp only [if_neg hz]
    exact Ev.now _
   ·
    refine Ev.succ ?_
    simp (disch := omega) only [impl_field_multiplicity.l0, if_pos, hi, Option.bind_some]
    refine Ev.succ ?_
    simp only [impl_field_multiplicity.j1, beq_eq_false_iff_ne.mpr hz, Bool.false_eq_true, if_false]
    exact Ev.now _
theorem spec_mult {p r : Int} {f : List Int} (hp : IsP p) (hr : 0 ≤ r ∧ r < p) (pf : Po p f) (h0 : 0 < f.length) : Ev (fun k => spec_l06Multiplicity.f k p f r) (multL p f r : Int) := by
 have h := (mult_loops hp hr f.length f 0 pf h0 (Nat.le_refl _) (by have := pf.len; omega)).1
 rw [Nat.zero_add] at h
 have hneg : wrap64 (-r) = -r := w64 (by have := hp.pm; omega) (by omega)
 simp only [spec_l06Multiplicity.f, hneg, spec_mod hp.p0 (show p ≤ 1000000000 by have := hp.pm; omega), Option.bind_some]
 exact h
theorem impl_mult {p r : Int} {f : List Int} (hp : IsP p) (hr : 0 ≤ r ∧ r < p) (pf : Po p f) (h0 : 0 < f.length) : Ev (fun k => impl_field_multiplicity.f k p f r) (multL p f r : Int) := by
 have h := (mult_loops hp hr f.length f 0 pf h0 (Nat.le_refl _) (by have := pf.len; omega)).2
 rw [Nat.zero_add] at h
 simp only [impl_field_multiplicity.f]
 exact h
theorem rts_inR {p : Int} (f : List Int) (i : Nat) (h : (i : Int) ≤ p) : InR p (rts p f i) := by
 intro x hx
 unfold rts at hx
 obtain ⟨h1, _⟩ := List.mem_filter.1 hx
 obtain ⟨n, hn, rfl⟩ := List.mem_map.1 h1
 have := List.mem_range.1 hn
 omega
theorem rootsL_inR {p : Int} (hp : 0 < p) (f : List Int) : InR p (rootsL p f) := rts_inR f _ (by omega)
def msum (p : Int) (f l : List Int) : Nat → Nat
 | 0 => 0
 | i + 1 => msum p f l i + multL p f (l.getD i 0)
theorem msum_le (p : Int) (f l : List Int) (hf : f.length ≤ 25) : ∀ i, msum p f l i ≤ 25 * i
 | 0 => Nat.le_refl _
 | i + 1 => by have := msum_le p f l hf i; have := mulF_le p (l.getD i 0) f.length f; simp only [msum, multL]; omega
def splitB (p : Int) (f : List Int) : Bool := decide (((msum p f (rootsL p f) (rootsL p f).length : Nat) : Int) = (f.length : Int) - 1)
theorem spec_splits {p : Int} {f : List Int} (hp : IsP p) (pf : Po p f) (h0 : 0 < f.length) : Ev (fun k => spec_l06Splits.f k p f) (splitB p f) := by
 have lf := pf.len
 have hl := rootsL_len hp.p0 hp.pm f
 have hr := rootsL_inR hp.p0 f
 have loop : ∀ d i, i + d = (rootsL p f).length → Ev (fun k => spec_l06Splits.l0 k p f (rootsL p f) ((msum p f (rootsL p f) i : Nat) : Int) (i : Int)) (splitB p f) := by
  intro d
  induction d with
  | zero =>
   intro i h
   refine Ev.succ ?_
   simp (disch := omega) only [spec_l06Splits.l0, if_neg, w64]
   rw [show i = (rootsL p f).length by omega]
   exact Ev_to (Ev.now _) (by unfold splitB; rw [Bool.eq_iff_iff, beq_iff_eq, decide_eq_true_eq])
  | succ d ih =>
   intro i h
   have hi := ih (i + 1) (by omega)
   have hb := msum_le p f (rootsL p f) lf i
   have hm := mulF_le p ((rootsL p f).getD i 0) f.length f
   have hs := spec_mult hp (hr.get hp.p0 i) pf h0
   refine Ev.succ ?_
   simp (disch := omega) only [spec_l06Splits.l0, if_pos, rd_n, wp1]
   refine Ev.bind hs ?_
   rw [w64 (by omega) (by unfold multL; omega)]
   rw [msum, Int.natCast_add] at hi
   exact hi
 have h := loop (rootsL p f).length 0 (by omega)
 simp only [spec_l06Splits.f]
 exact Ev.bind (spec_roots hp.p2 hp.pm (by omega) pf.inR) h
theorem impl_splits {p : Int} {f : List Int} (hp : IsP p) (pf : Po p f) (h0 : 0 < f.length) : Ev (fun k => impl_field_splits.f k p f) (splitB p f) := by
 have lf := pf.len
 have hl := rootsL_len hp.p0 hp.pm f
 have hr := rootsL_inR hp.p0 f
 have loop : ∀ d i, i + d = (rootsL p f).length → Ev (fun k => impl_field_splits.l0 k p f ((msum p f (rootsL p f) i : Nat) : Int) (rootsL p f) ((rootsL p f).length : Int) (i : Int)) (splitB p f) := by
  intro d
  induction d with
  | zero =>
   intro i h
   refine Ev.succ ?_
   simp (disch := omega) only [impl_field_splits.l0, if_neg, impl_deg, Option.bind_some]
   rw [show i = (rootsL p f).length by omega]
   exact Ev_to (Ev.now _) (by unfold splitB; rw [Bool.eq_iff_iff, beq_iff_eq, decide_eq_true_eq])
  | succ d ih =>
   intro i h
   have hi := ih (i + 1) (by omega)
   have hb := msum_le p f (rootsL p f) lf i
   have hm := mulF_le p ((rootsL p f).getD i 0) f.length f
   have hs := impl_mult hp (hr.get hp.p0 i) pf h0
   refine Ev.succ ?_
   simp (disch := omega) only [impl_field_splits.l0, if_pos, rd_n, wp1]
   refine Ev.bind hs ?_
   rw [w64 (by omega) (by unfold multL; omega)]
   rw [msum, Int.natCast_add] at hi
   exact hi
 have h := loop (rootsL p f).length 0 (by omega)
 simp only [impl_field_splits.f]
 exact Ev.bind (impl_roots hp.p2 hp.pm (by omega) pf.inR) h
theorem spec_numbers {p : Int} (hp : IsP p) (l : List Int) (hl : l.length ≤ 1000000000) : Ev (fun k => spec_l02Numbers.f k p l) (l.all (hasB p)) := by
 have loop : ∀ d i, i + d = l.length → Ev (fun k => spec_l02Numbers.l0 k p l (i : Int)) ((l.drop i).all (hasB p)) := by
  intro d
  induction d with
  | zero => intro i h; refine Ev.succ ?_; simp (disch := omega) only [spec_l02Numbers.l0, if_neg, List.drop_of_length_le]; exact Ev.now _
  | succ d ih =>
   intro i h
   have hi := ih (i + 1) (by omega)
   refine Ev.succ ?_
   rw [List.drop_eq_getElem_cons (show i < l.length by omega), List.all_cons]
   simp (disch := omega) only [spec_l02Numbers.l0, if_pos, in_has hp, Option.bind_some, wp1, rd_lt l i (show i < l.length by omega)]
   cases hb : hasB p (l[i]'(by omega)) with
   | true => simp only [if_true, Bool.true_and]; exact hi
   | false => simp only [Bool.false_eq_true, if_false, Bool.false_and]; exact Ev.now _
 have h := loop l.length 0 (by omega)
 simp only [spec_l02Numbers.f]
 exact h
noncomputable def arNum (p : Int) (l : List Int) (a b : Int) : Bool := primeB p && (withinB l.length a b && l.all (hasB p))
theorem impl_numbers (p : Int) (l : List Int) (a b : Int) : Ev (fun k => impl_areNumbers.f k p l a b) (arNum p l a b) := by
 simp only [impl_areNumbers.f]
 exact Ev.bind (impl_prime p) (Ev.now _)
theorem spec_of {p : Int} {l : List Int} (hp : IsP p) (hl : l.length ≤ 24) (hr : InR p l) : Ev (fun k => spec_l06Of.f k p l) (ofL p l l.length) := by
 have loop : ∀ d i, i + d = l.length → Ev (fun k => spec_l06Of.l0 k p l (ofL p l i) (i : Int)) (ofL p l l.length) := by
  intro d
  induction d with
  | zero => intro i h; refine Ev.succ ?_; simp (disch := omega) only [spec_l06Of.l0, if_neg]; rw [show i = l.length by omega]; exact Ev.now _
  | succ d ih =>
   intro i h
   have hi := ih (i + 1) (by omega)
   have hg := hr.get hp.p0 i
   have hln := ofL_len p l i
   have h2 := hp.pm
   refine Ev.succ ?_
   simp (disch := omega) only [spec_l06Of.l0, if_pos, rd_n, wp1, w64, spec_mod hp.p0, Option.bind_some]
   exact Ev.bind (spec_product hp.p2 hp.pm (by omega) (by simp) (ofL_inR hp.p2 l i) (lin_inR hp.p2 _)) hi
 have h := loop l.length 0 (by omega)
 simp only [spec_l06Of.f]
 exact h
theorem impl_of {p : Int} {l : List Int} (hp : IsP p) (hl : l.length ≤ 24) (hr : InR p l) : Ev (fun k => impl_field_ofRoots.f k p l) (ofL p l l.length) := by
 have loop : ∀ d i, i + d = l.length → Ev (fun k => impl_field_ofRoots.l0 k p (ofL p l i) l (l.length : Int) (i : Int)) (ofL p l l.length) := by
  intro d
  induction d with
  | zero => intro i h; refine Ev.succ ?_; simp (disch := omega) only [impl_field_ofRoots.l0, if_neg]; rw [show i = l.length by omega]; exact Ev.now _
  | succ d ih =>
   intro i h
   have hi := ih (i + 1) (by omega)
   have hg := hr.get hp.p0 i
   have hln := ofL_len p l i
   have h2 := hp.pm
   refine Ev.succ ?_
   simp (disch := omega) only [impl_field_ofRoots.l0, if_pos, rd_n, wp1, w64, impl_mod hp.p0, Option.bind_some]
   exact Ev.bind (impl_product hp.p2 hp.pm (by omega) (by simp) (ofL_inR hp.p2 l i) (lin_inR hp.p2 _)) hi
 have h := loop l.length 0 (by omega)
 simp only [impl_field_ofRoots.f]
 exact h
theorem co_pad (f : List Int) (n t : Nat) : co (pad f n) t = co f t := by
 unfold pad co
 simp only [List.getD_eq_getElem?_getD]
 by_cases h : t < f.length
 ·
  rw [List.getElem?_append_left h]
 ·
  rw [List.getElem?_append_right (by omega), List.getElem?_eq_none (show f.length ≤ t by omega)]
  simp only [List.getElem?_replicate]
  split <;> rfl
theorem ad_get (p c : Int) (g : List Int) (t : Nat) : ∀ d i acc, i + d ≤ acc.length → co (ad p c g acc i d) t = if i ≤ t ∧ t < i + d then (co acc t + c * co g t) % p else co acc t
 | 0, i, acc, h => by rw [if_neg (by omega)]; rfl
 | d + 1, i, acc, h => by
  rw [ad, ad_get p c g t d (i + 1) _ (by simpa using by omega), co_set _ _ _ _ (by omega)]
  by_cases e : t = i
  ·
   subst e
   rw [if_neg (by omega), if_pos rfl, if_pos (by omega)]
   rfl
  ·
   rw [if_neg e]
   by_cases h2 : i + 1 ≤ t ∧ t < i + 1 + d
   ·
    rw [if_pos h2, if_pos (by omega)]
   ·
    rw [if_neg h2, if_neg (by omega)]
theorem co_addL {p : Int} (hp : 0 < p) {f : List Int} (hf : InR p f) (g : List Int) (c : Int) (t : Nat) : co (addL p f g c) t = (co f t + c * co g t) % p := by
 unfold addL
 rw [co_trim, ad_get _ _ _ _ _ _ _ (by rw [pad_len _ _ (Nat.le_max_left _ _)]; have := Nat.le_max_right f.length g.length; omega), co_pad]
 by_cases h : 0 ≤ t ∧ t < 0 + g.length
 ·
  rw [if_pos h]
 ·
  rw [if_neg h, co_ge (show g.length ≤ t by omega), Int.mul_zero, Int.add_zero, Int.emod_eq_of_lt (hf.co hp t).1 (hf.co hp t).2]
theorem addL_nz (p : Int) (f g : List Int) (c : Int) : Nz (addL p f g c) := Nz.trim _
theorem mulL_nz (p : Int) (f g : List Int) : Nz (mulL p f g) := by
 unfold mulL; split
 ·
  exact .inl rfl
 ·
  exact Nz.trim _
theorem co_monic {p : Int} (hp : 0 < p) (f : List Int) (t : Nat) : co (monicL p f) t = (inv p (rd f ((f.length : Int) - 1)) * co f t) % p := by
 unfold monicL
 rw [co_addL hp InR.nil, co_ge (show ([] : List Int).length ≤ t by simp), Int.zero_add]
theorem rd_top (f : List Int) (h : 0 < f.length) : rd f ((f.length : Int) - 1) = co f (f.length - 1) := by
 rw [show (f.length : Int) - 1 = ((f.length - 1 : Nat) : Int) by omega, rd_nat]; rfl
theorem monic_po {p : Int} {f : List Int} (hp : IsP p) (pf : Po p f) (h0 : 0 < f.length) : Po p (monicL p f) ∧ (monicL p f).length = f.length ∧ co (monicL p f) (f.length - 1) = 1 := by
 have ht := pf.nz.top pf.inR hp.p0 h0
 have h1 : co (monicL p f) (f.length - 1) = 1 := by
  rw [co_monic hp.p0, rd_top f h0]
  have h := inv_one hp ht
  rw [Int.mul_comm] at h
  have := h.emod
  rwa [Int.emod_eq_of_lt (a := 1) (by omega) (by have := hp.p2; omega)] at this
 have hlen := monicL_len p f
 have hl2 : (monicL p f).length = f.length := by
  rcases Nat.lt_or_ge (monicL p f).length f.length with h | h
  ·
   rw [co_ge (by omega)] at h1; omega
  ·
   omega
 exact ⟨Po.of (by have := pf.len; omega) (addL_inR hp.p0 InR.nil _ _) (addL_nz _ _ _ _), hl2, h1⟩
theorem pr1_cg (p x : Int) (g : List Int) (i t : Nat) : ∀ d j acc, i + j + d ≤ acc.length → cg p (co (pr1 p x g i acc j d) t) (co acc t + if i + j ≤ t ∧ t < i + j + d then x * co g (t - i) else 0)
 | 0, j, acc, _ => by rw [pr1, if_neg (by omega), Int.add_zero]; exact cg.refl _
 | d + 1, j, acc, h => by
  rw [pr1]
  refine (pr1_cg p x g i t d (j + 1) _ (by rw [List.length_set]; omega)).trans ?_
  rw [co_set _ _ _ _ (by omega)]
  by_cases ht : t = i + j
  ·
   rw [if_pos ht, if_neg (by omega), if_pos (by omega), Int.add_zero, ht, show i + j - i = j by omega]; exact cg.mod p _
  ·
   rw [if_neg ht]
   by_cases h2 : i + (j + 1) ≤ t ∧ t < i + (j + 1) + d
   ·
    rw [if_pos h2, if_pos (by omega)]; exact cg.refl _
   ·
    rw [if_neg h2, if_neg (by omega)]; exact cg.refl _
theorem pr0_cg (p : Int) (f g : List Int) (t : Nat) (h0 : 0 < g.length) : ∀ d i acc, i + d ≤ f.length → acc.length = f.length + g.length - 1 →
  cg p (co (pr0 p f g acc i d) t) (co acc t + su (fun s => if i + s ≤ t ∧ t < i + s + g.length then co f (i + s) * co g (t - (i + s)) else 0) d)
 | 0, i, acc, _, _ => by rw [pr0, su, Int.add_zero]; exact cg.refl _
 | d + 1, i, acc, h, hl => by
  rw [pr0]
  refine (pr0_cg p f g t h0 d (i + 1) _ (by omega) (by rw [pr1_len]; exact hl)).trans ?_
  rw [su_head, su_congr (f := fun s => if i + 1 + s ≤ t ∧ t < i + 1 + s + g.length then co f (i + 1 + s) * co g (t - (i + 1 + s)) else 0) (g := fun s => if i + (s + 1) ≤ t ∧ t < i + (s + 1) + g.length then co f (i + (s + 1)) * co g (t - (i + (s + 1))) else 0) (fun s _ => by rw [show i + 1 + s = i + (s + 1) by omega])]
  refine ((pr1_cg p (f.getD i 0) g i t g.length 0 acc (by omega)).add (cg.refl _)).trans (cg.of_eq ?_)
  simp only [Nat.add_zero]
  rw [Int.add_assoc]
  rfl
theorem co_zeros (n t : Nat) : co (List.replicate n (0 : Int)) t = 0 := by
 unfold co
 rw [List.getD_eq_getElem?_getD, List.getElem?_replicate]
 split <;> rfl
theorem co_mulL {p : Int} (hp : 0 < p) (f g : List Int) (t : Nat) : co (mulL p f g) t = cv (co f) (co g) t % p := by
 by_cases h : f.length = 0 ∨ g.length = 0
 ·
  have e : mulL p f g = [] := by unfold mulL; rw [if_pos h]
  have z : cv (co f) (co g) t = 0 := su_zero fun i _ => by
   rcases h with h | h
   ·
    rw [co_ge (show f.length ≤ i by omega), Int.zero_mul]
   ·
    rw [co_ge (show g.length ≤ t - i by omega), Int.mul_zero]
  rw [e, z]; simp [co]
 ·
  have e : mulL p f g = trimL (mulW p f g) := by unfold mulL; rw [if_neg h]
  rw [e, co_trim]
  refine cg.eq ?_ ((mulW_inR hp f g).co hp t) (emod_bd hp)
  refine (pr0_cg p f g t (by omega) f.length 0 _ (by omega) (by simp)).trans ((cg.of_eq ?_).trans (cg.mod p _).symm)
  rw [co_zeros, Int.zero_add]
  have e1 : su (fun s => if 0 + s ≤ t ∧ t < 0 + s + g.length then co f (0 + s) * co g (t - (0 + s)) else 0) f.length = su (fun s => if s ≤ t then co f s * co g (t - s) else 0) f.length :=
   su_congr fun s _ => by
    simp only [Nat.zero_add]
    by_cases h1 : s ≤ t
    ·
     by_cases h2 : t < s + g.length
     ·
      rw [if_pos ⟨h1, h2⟩, if_pos h1]
     ·
      rw [if_neg (fun h => h2 h.2), if_pos h1, co_ge (show g.length ≤ t - s by omega), Int.mul_zero]
    ·
     rw [if_neg (fun h => h1 h.1), if_neg h1]
  rw [e1, ← su_ext (n := max f.length (t + 1)) (Nat.le_max_left _ _) (fun i hi _ => by rw [co_ge hi, Int.zero_mul]; split <;> rfl),
   su_ext (m := t + 1) (Nat.le_max_right _ _) (fun i hi _ => by rw [if_neg (by omega)])]
  exact su_congr fun i hi => by rw [if_pos (by omega)]
theorem mulL_comm {p : Int} (hp : 0 < p) (f g : List Int) : mulL p f g = mulL p g f :=
 (mulL_nz p f g).ext (mulL_nz p g f) fun t => by rw [co_mulL hp, co_mulL hp, cv_comm]
theorem div_back {p : Int} {f g : List Int} (hp : IsP p) (pf : Po p f) (pg : Po p g) (h0 : 0 < g.length) : addL p (mulL p (divL p f g).1 g) (divL p f g).2 1 = f := by
 obtain ⟨d1, d2, d3, d4, d5, d6⟩ := divL_facts hp pf.inR pg.inR pg.nz h0
 refine (addL_nz _ _ _ _).ext pf.nz fun t => ?_
 rw [co_addL hp.p0 (mulL_inR hp.p0 _ _), co_mulL hp.p0, Int.one_mul, ea_l, ← (d1 t).emod]
 exact Int.emod_eq_of_lt (pf.inR.co hp.p0 t).1 (pf.inR.co hp.p0 t).2
def Dv (p : Int) (d f : List Int) : Prop := ∃ (Q : Nat → Int) (N : Nat), (∀ i, N ≤ i → Q i = 0) ∧ ∀ t, cg p (co f t) (cv Q (co d) t)
theorem co_nil (t : Nat) : co [] t = 0 := co_ge (Nat.zero_le _)
theorem Dv.zero (p : Int) (d : List Int) : Dv p d [] := ⟨fun _ => 0, 0, fun _ _ => rfl, fun t => by rw [cv_zero, co_nil]; exact cg.refl 0⟩
def ev (F : Nat → Int) (N : Nat) (x : Int) : Int := su (fun i => F i * x ^ i) N
theorem ev_ext {F : Nat → Int} {N M : Nat} (x : Int) (h : N ≤ M) (hz : ∀ i, N ≤ i → F i = 0) : ev F M x = ev F N x :=
 su_ext h fun i h1 _ => by rw [hz i h1, Int.zero_mul]
theorem co_cons (c : Int) (f : List Int) (i : Nat) : co (c :: f) (i + 1) = co f i := rfl
theorem ev_cons (c : Int) (f : List Int) (N : Nat) (x : Int) : ev (co (c :: f)) (N + 1) x = ev (co f) N x * x + c := by
 unfold ev
 rw [su_head, ← su_mulr, Int.add_comm]
 congr 1
 ·
  exact su_congr fun i _ => by simp only [co_cons, Int.pow_succ, Int.mul_assoc]
 ·
  show c * x ^ 0 = c
  rw [Int.pow_zero, Int.mul_one]
theorem ev_cg {p : Int} {F G : Nat → Int} (h : ∀ i, cg p (F i) (G i)) (N : Nat) (x : Int) : cg p (ev F N x) (ev G N x) := cg.su fun i _ => (h i).mul (cg.refl _)
theorem valL_ev (p : Int) (f : List Int) (x : Int) : cg p (valL p f x) (ev (co f) f.length x) := by
 induction f with
 | nil => exact cg.refl _
 | cons c f ih =>
  show cg p ((valL p f x * x + c) % p) _
  rw [List.length_cons, ev_cons]
  exact (cg.mod _ _).trans ((ih.mul (cg.refl x)).add (cg.refl c))
theorem valL_evN {p : Int} {f : List Int} {N : Nat} (x : Int) (h : f.length ≤ N) : cg p (valL p f x) (ev (co f) N x) := by
 rw [ev_ext x h fun i hi => co_ge hi]; exact valL_ev p f x
theorem ev_cv {F G : Nat → Int} {a b : Nat} (x : Int) (hF : ∀ i, a ≤ i → F i = 0) (hG : ∀ i, b ≤ i → G i = 0) : ev (cv F G) (a + b) x = ev F a x * ev G b x := by
 have h1 : ev (cv F G) (a + b) x = su (fun i => su (fun j => F j * G (i - j) * x ^ i) (i + 1)) (a + b) :=
  su_congr fun i _ => (su_mulr _ _ _).symm
 rw [h1, su_tri (fun i j => F j * G (i - j) * x ^ i), ← ev_ext x (Nat.le_add_right a b) hF]
 unfold ev
 rw [← su_mulr]
 refine su_congr fun j hj => ?_
 by_cases hja : j < a
 ·
  have e : su (fun i => G i * x ^ i) (a + b - j) = su (fun i => G i * x ^ i) b := su_ext (by omega) fun i h1 _ => by rw [hG i h1, Int.zero_mul]
  rw [← e, ← su_mul]
  exact su_congr fun i _ => by
   rw [show j + i - j = i by omega, Int.pow_add]
   grind
 ·
  rw [hF j (by omega), Int.zero_mul, Int.zero_mul]
  exact su_zero fun i _ => by rw [Int.zero_mul, Int.zero_mul]
theorem valL_eq {p x y : Int} {f : List Int} (hp : 0 < p) (h : cg p (valL p f x) y) : valL p f x = y % p := by
 rw [← h.emod, Int.emod_eq_of_lt (valL_bd hp f x).1 (valL_bd hp f x).2]
theorem valL_mul {p : Int} (hp : 0 < p) (f g : List Int) (x : Int) : valL p (mulL p f g) x = valL p f x * valL p g x % p := by
 refine valL_eq hp ?_
 have hl := mulL_len p f g
 refine (valL_evN (N := f.length + g.length) x (by omega)).trans ?_
 have h1 : cg p (ev (co (mulL p f g)) (f.length + g.length) x) (ev (cv (co f) (co g)) (f.length + g.length) x) :=
  ev_cg (fun i => by rw [co_mulL hp]; exact cg.mod _ _) _ _
 refine h1.trans ?_
 rw [ev_cv x (fun i => co_ge) fun i => co_ge]
 exact ((valL_ev p f x).mul (valL_ev p g x)).symm
theorem ev_lin (F G : Nat → Int) (c : Int) (N : Nat) (x : Int) : ev (fun i => F i + c * G i) N x = ev F N x + c * ev G N x := by
 unfold ev
 rw [← su_mul, ← su_add]
 exact su_congr fun i _ => by rw [Int.add_mul, Int.mul_assoc]
theorem valL_add {p : Int} (hp : 0 < p) {f : List Int} (rf : InR p f) (g : List Int) (c x : Int) : valL p (addL p f g c) x = (valL p f x + c * valL p g x) % p := by
 refine valL_eq hp ?_
 have hl := addL_len p f g c
 refine (valL_evN (N := max f.length g.length) x hl).trans ?_
 have h1 : cg p (ev (co (addL p f g c)) (max f.length g.length) x) (ev (fun i => co f i + c * co g i) (max f.length g.length) x) :=
  ev_cg (fun i => by rw [co_addL hp rf]; exact cg.mod _ _) _ _
 refine h1.trans ?_
 rw [ev_lin]
 exact ((valL_evN x (Nat.le_max_left _ _)).symm).add ((cg.refl c).mul (valL_evN x (Nat.le_max_right _ _)).symm)
theorem valL_one_ {p : Int} (hp : 2 ≤ p) (x : Int) : valL p [1] x = 1 := by
 show ((0 * x + 1) % p) = 1
 rw [Int.zero_mul, Int.zero_add, Int.emod_eq_of_lt (by omega) (by omega)]
theorem cv_lin (a : Int) (X : Nat → Int) (t : Nat) : cv X (co [a, 1]) t = a * X t + (if 1 ≤ t then X (t - 1) else 0) := by
 rw [cv_comm]
 unfold cv
 cases t with
 | zero => simp [su, co]
 | succ t =>
  rw [su_head, su_head, su_zero (n := t) fun i _ => by
   rw [show co [a, 1] (i + 1 + 1) = 0 from co_ge (by simp), Int.zero_mul]]
  simp [co]
theorem rts_nodup (p : Int) (f : List Int) (i : Nat) : (rts p f i).Nodup := by
 unfold rts
 refine List.Pairwise.filter _ ?_
 rw [List.pairwise_map]
 exact List.Pairwise.imp (fun h => by omega) List.nodup_range
theorem mem_rootsL {p : Int} (hp : 0 < p) {f : List Int} {x : Int} : x ∈ rootsL p f ↔ (0 ≤ x ∧ x < p) ∧ valL p f x = 0 := by
 unfold rootsL rts
 rw [List.mem_filter, List.mem_map, decide_eq_true_eq]
 constructor
 ·
  rintro ⟨⟨n, hn, rfl⟩, h⟩
  rw [List.mem_range] at hn
  exact ⟨by omega, h⟩
 ·
  rintro ⟨⟨h0, h1⟩, h⟩
  exact ⟨⟨x.toNat, List.mem_range.2 (by omega), by omega⟩, h⟩
theorem mulL_assoc {p : Int} (hp : 0 < p) (f g h : List Int) : mulL p (mulL p f g) h = mulL p f (mulL p g h) :=
 (mulL_nz _ _ _).ext (mulL_nz _ _ _) fun t => by
  rw [co_mulL hp, co_mulL hp]
  have h1 : cg p (cv (co (mulL p f g)) (co h) t) (cv (cv (co f) (co g)) (co h) t) := cg.cv (fun i => by rw [co_mulL hp]; exact cg.mod _ _) (fun i => cg.refl _) t
  have h2 : cg p (cv (co f) (co (mulL p g h)) t) (cv (co f) (cv (co g) (co h)) t) := cg.cv (fun i => cg.refl _) (fun i => by rw [co_mulL hp]; exact cg.mod _ _) t
  rw [cv_assoc] at h1
  exact (h1.trans h2.symm).emod
theorem valL_lin {p : Int} (hp : 2 ≤ p) (r x : Int) : valL p [(-r) % p, 1] x = (x - r) % p := by
 show ((0 * x + 1) % p * x + (-r) % p) % p = _
 rw [Int.zero_mul, Int.zero_add, Int.emod_eq_of_lt (a := 1) (by omega) (by omega), Int.one_mul, ea_r, Int.sub_eq_add_neg]
theorem co_mul_lin {p : Int} (hp : 0 < p) (f : List Int) (b : Int) (t : Nat) : cg p (co (mulL p f [b, 1]) t) (b * co f t + if 1 ≤ t then co f (t - 1) else 0) := by
 rw [co_mulL hp]; exact (cg.mod _ _).trans (cg.of_eq (cv_lin b (co f) t))
theorem lin_cancel {p b : Int} (hp : IsP p) {f g : List Int} (rf : InR p f) (rg : InR p g) (zf : Nz f) (zg : Nz g) (h : ∀ t, cg p (co (mulL p f [b, 1]) t) (co (mulL p g [b, 1]) t)) : f = g := by
 refine zf.ext zg fun t => ?_
 have key : ∀ d t, max f.length g.length ≤ t + d → cg p (co f t) (co g t) := by
  intro d
  induction d with
  | zero => intro t ht; rw [co_ge (l := f) (by omega), co_ge (l := g) (by omega)]; exact cg.refl _
  | succ d ih =>
   intro t ht
   have h1 := ((co_mul_lin hp.p0 f b (t + 1)).symm.trans (h (t + 1))).trans (co_mul_lin hp.p0 g b (t + 1))
   simp only [show (1 ≤ t + 1) by omega, if_true, Nat.add_sub_cancel] at h1
   have h2 := h1.sub ((cg.refl b).mul (ih (t + 1) (by omega)))
   rw [show b * co f (t + 1) + co f t - b * co f (t + 1) = co f t by omega, show b * co g (t + 1) + co g t - b * co g (t + 1) = co g t by omega] at h2
   exact h2
 exact (key (max f.length g.length) t (by omega)).eq (rf.co hp.p0 t) (rg.co hp.p0 t)
theorem lin_po {p : Int} (hp : IsP p) (r : Int) : Po p [(-r) % p, 1] := Po.of (by simp) (lin_inR hp.p2 r) (lin_nz p r)
theorem mulL_po {p : Int} (hp : IsP p) {f : List Int} (pf : Po p f) (h0 : 0 < f.length) (hl : f.length ≤ 24) (r : Int) : Po p (mulL p f [(-r) % p, 1]) ∧ (mulL p f [(-r) % p, 1]).length = f.length + 1 := by
 have e : (mulL p f [(-r) % p, 1]).length = f.length + 1 := by
  rw [mulL_len_eq hp pf (lin_po hp r) h0 (by simp), mulW_len]; simp
 exact ⟨Po.of (by omega) (mulL_inR hp.p0 _ _) (mulL_nz _ _ _), e⟩
theorem addL_nil {p : Int} (hp : 0 < p) {f : List Int} (rf : InR p f) (zf : Nz f) (c : Int) : addL p f [] c = f := by
 refine (addL_nz _ _ _ _).ext zf fun t => ?_
 rw [co_addL hp rf, show co [] t = 0 from co_ge (Nat.zero_le _), Int.mul_zero, Int.add_zero]
 exact Int.emod_eq_of_lt (rf.co hp t).1 (rf.co hp t).2
theorem root_fac {p r : Int} (hp : IsP p) {f : List Int} (pf : Po p f) (h2 : 2 ≤ f.length) (hv : valL p f r = 0) : mulL p (divL p f [(-r) % p, 1]).1 [(-r) % p, 1] = f := by
 have pl := lin_po hp r
 have hb := div_back hp pf pl (by simp)
 obtain ⟨d1, d2, d3, d4, d5, d6⟩ := divL_facts hp pf.inR pl.inR pl.nz (by simp)
 have hl := d2 pf.nz
 have hz := d3 pf.nz
 generalize hR : (divL p f [(-r) % p, 1]).2 = R at hb hl hz d5
 generalize hQ : (divL p f [(-r) % p, 1]).1 = Q at hb
 have hR0 : R = [] := by
  rcases Nat.eq_zero_or_pos R.length with h | h
  ·
   exact List.eq_nil_of_length_eq_zero h
  ·
   exfalso
   simp only [List.length_cons, List.length_nil] at hl
   have pR : Po p R := Po.of (by omega) d5 hz
   have e : valL p R r = 0 := by
    have e1 := congrArg (fun l => valL p l r) hb
    rw [valL_add hp.p0 (mulL_inR hp.p0 _ _), valL_mul hp.p0, valL_lin hp.p2, Int.sub_self, Int.zero_emod, Int.mul_zero, Int.zero_emod, Int.one_mul, Int.zero_add, hv] at e1
    rwa [Int.emod_eq_of_lt (valL_bd hp.p0 _ _).1 (valL_bd hp.p0 _ _).2] at e1
   have := valL_one hp.p0 pR h e
   omega
 rw [hR0, addL_nil hp.p0 (mulL_inR hp.p0 _ _) (mulL_nz _ _ _)] at hb
 exact hb
theorem div_lin {p r : Int} (hp : IsP p) {f : List Int} (pf : Po p f) (h0 : 0 < f.length) (hl : f.length ≤ 24) : (divL p (mulL p f [(-r) % p, 1]) [(-r) % p, 1]).1 = f := by
 obtain ⟨pm, lm⟩ := mulL_po hp pf h0 hl r
 have hv : valL p (mulL p f [(-r) % p, 1]) r = 0 := by rw [valL_mul hp.p0, valL_lin hp.p2, Int.sub_self, Int.zero_emod, Int.mul_zero, Int.zero_emod]
 have h := root_fac hp pm (by omega) hv
 obtain ⟨pq, lq⟩ := divL_po (r := r) hp pm (by omega)
 exact lin_cancel hp pq.inR pf.inR pq.nz pf.nz fun t => by rw [h]; exact cg.refl _
theorem multL_step {p r : Int} (hp : IsP p) {f : List Int} (pf : Po p f) (h0 : 0 < f.length) (hv : valL p f r = 0) : multL p f r = multL p (divL p f [(-r) % p, 1]).1 r + 1 := by
 have h2 := valL_one hp.p0 pf h0 hv
 obtain ⟨pq, lq⟩ := divL_po (r := r) hp pf h2
 unfold multL
 rw [lq]
 obtain ⟨n, hn⟩ : ∃ n, f.length = n + 1 := ⟨f.length - 1, by omega⟩
 rw [hn, Nat.add_sub_cancel, mulF, if_pos hv]
theorem multL_zero {p r : Int} {f : List Int} (hv : valL p f r ≠ 0) : multL p f r = 0 := by
 unfold multL
 cases f.length with
 | zero => rfl
 | succ n => rw [mulF, if_neg hv]
theorem multL_mul {p r s : Int} (hp : IsP p) (hr : 0 ≤ r ∧ r < p) (hs : 0 ≤ s ∧ s < p) : ∀ (n : Nat) (f : List Int), f.length = n + 1 → Po p f → f.length ≤ 24 →
  multL p (mulL p f [(-s) % p, 1]) r = multL p f r + if r = s then 1 else 0 := by
 intro n
 induction n with
 | zero =>
  intro f hn pf hl
  obtain ⟨pm, lm⟩ := mulL_po hp pf (by omega) hl s
  have hz : valL p f r ≠ 0 := fun h => by have := valL_one hp.p0 pf (by omega) h; omega
  have hm : valL p (mulL p f [(-s) % p, 1]) r = valL p f r * ((r - s) % p) % p := by rw [valL_mul hp.p0, valL_lin hp.p2]
  by_cases hrs : r = s
  ·
   subst hrs
   rw [if_pos rfl, multL_step hp pm (by omega) (by rw [hm, Int.sub_self, Int.zero_emod, Int.mul_zero, Int.zero_emod]), div_lin hp pf (by omega) hl]
  ·
   have hb := emod_bd (x := r - s) hp.p0
   have hd : 0 < (r - s) % p := by
    rcases Int.lt_or_eq_of_le hb.1 with h | h
    ·
     exact h
    ·
     exfalso
     have h1 := Int.dvd_of_emod_eq_zero h.symm
     obtain ⟨k, hk⟩ := h1
     have : k = 0 := by
      rcases Int.lt_trichotomy k 0 with h | h | h
      ·
       have := Int.mul_le_mul_of_nonneg_left (show k ≤ -1 by omega) (show 0 ≤ p by have := hp.p0; omega); omega
      ·
       exact h
      ·
       have := Int.mul_le_mul_of_nonneg_left (show 1 ≤ k by omega) (show 0 ≤ p by have := hp.p0; omega); omega
     rw [this, Int.mul_zero] at hk; omega
   have hv := valL_bd hp.p0 f r
   rw [if_neg hrs, multL_zero hz, multL_zero (by rw [hm]; exact mul_ne0 hp (by omega) (by omega))]
 | succ n ih =>
  intro f hn pf hl
  obtain ⟨pm, lm⟩ := mulL_po hp pf (by omega) hl s
  have hm : valL p (mulL p f [(-s) % p, 1]) r = valL p f r * ((r - s) % p) % p := by rw [valL_mul hp.p0, valL_lin hp.p2]
  by_cases hrs : r = s
  ·
   subst hrs
   rw [if_pos rfl, multL_step hp pm (by omega) (by rw [hm, Int.sub_self, Int.zero_emod, Int.mul_zero, Int.zero_emod]), div_lin hp pf (by omega) hl]
  ·
   rw [if_neg hrs]
   have hb := emod_bd (x := r - s) hp.p0
   have hd : 0 < (r - s) % p := by
    rcases Int.lt_or_eq_of_le hb.1 with h | h
    ·
     exact h
    ·
     exfalso
     have h1 := Int.dvd_of_emod_eq_zero h.symm
     obtain ⟨k, hk⟩ := h1
     have : k = 0 := by
      rcases Int.lt_trichotomy k 0 with h | h | h
      ·
       have := Int.mul_le_mul_of_nonneg_left (show k ≤ -1 by omega) (show 0 ≤ p by have := hp.p0; omega); omega
      ·
       exact h
      ·
       have := Int.mul_le_mul_of_nonneg_left (show 1 ≤ k by omega) (show 0 ≤ p by have := hp.p0; omega); omega
     rw [this, Int.mul_zero] at hk; omega
   have hv := valL_bd hp.p0 f r
   by_cases hz : valL p f r = 0
   ·
    have hz2 : valL p (mulL p f [(-s) % p, 1]) r = 0 := by rw [hm, hz, Int.zero_mul, Int.zero_emod]
    obtain ⟨pq, lq⟩ := divL_po (r := r) hp pf (by omega)
    have hf := root_fac hp pf (by omega) hz
    generalize hQ : (divL p f [(-r) % p, 1]).1 = Q at pq lq hf
    obtain ⟨pm2, lm2⟩ := mulL_po hp pq (by omega) (by omega) s
    have e : mulL p f [(-s) % p, 1] = mulL p (mulL p Q [(-s) % p, 1]) [(-r) % p, 1] := by
     rw [← hf, mulL_assoc hp.p0, mulL_assoc hp.p0, mulL_comm hp.p0 [(-r) % p, 1]]
    have h1 := multL_step hp pm (by omega) hz2
    have h2 := multL_step hp pf (by omega) hz
    rw [hQ] at h2
    rw [h1, h2, e, div_lin hp pm2 (by omega) (by omega), ih Q (by omega) pq (by omega), if_neg hrs]
   ·
    rw [multL_zero hz, multL_zero (by rw [hm]; exact mul_ne0 hp (by omega) (by omega))]
theorem ofL_po {p : Int} (hp : IsP p) (l : List Int) : ∀ n, n ≤ 24 → Po p (ofL p l n) ∧ (ofL p l n).length = n + 1
 | 0, _ => ⟨Po.of (by simp [ofL]) (InR.one (by have := hp.p2; omega)) (.inr (by simp [ofL, co])), by simp [ofL]⟩
 | n + 1, h => by
  obtain ⟨a, b⟩ := ofL_po hp l n (by omega)
  have := mulL_po hp a (by omega) (by omega) (l.getD n 0)
  simp only [ofL]
  exact ⟨this.1, by rw [this.2, b]⟩
theorem ofL_mult {p r : Int} (hp : IsP p) (hr : 0 ≤ r ∧ r < p) {l : List Int} (rl : InR p l) : ∀ n, n ≤ 24 → n ≤ l.length → multL p (ofL p l n) r = (l.take n).count r
 | 0, _, _ => by
  rw [List.take_zero, List.count_nil]
  refine multL_zero ?_
  rw [ofL, valL_one_ hp.p2]; omega
 | n + 1, h, hn => by
  obtain ⟨a, b⟩ := ofL_po hp l n (by omega)
  have e : l.getD n 0 = l[n] := by rw [List.getD_eq_getElem?_getD, List.getElem?_eq_getElem (by omega)]; rfl
  rw [List.take_succ_eq_append_getElem (by omega), List.count_append, ← ofL_mult hp hr rl n (by omega) (by omega), ← e]
  have := multL_mul hp hr (rl.get hp.p0 n) n (ofL p l n) b a (by omega)
  simp only [ofL]
  rw [this]
  congr 1
  by_cases hrs : r = l.getD n 0
  ·
   rw [if_pos hrs, ← hrs]; simp
  ·
   rw [if_neg hrs, List.count_singleton, if_neg]
   simpa using fun h => hrs h.symm
theorem ofL_root {p : Int} (hp : IsP p) (l : List Int) (x : Int) : ∀ n, (∃ j, j < n ∧ l.getD j 0 = x) → valL p (ofL p l n) x = 0
 | 0, ⟨j, h, _⟩ => by omega
 | n + 1, ⟨j, h, e⟩ => by
  simp only [ofL]
  rw [valL_mul hp.p0, valL_lin hp.p2]
  by_cases hj : j = n
  ·
   subst hj; rw [e, Int.sub_self, Int.zero_emod, Int.mul_zero, Int.zero_emod]
  ·
   rw [ofL_root hp l x n ⟨j, by omega, e⟩, Int.zero_mul, Int.zero_emod]
theorem msum_map (p : Int) (f l : List Int) : ∀ i, i ≤ l.length → msum p f l i = ((l.take i).map (multL p f)).sum
 | 0, _ => by simp [msum]
 | i + 1, h => by
  have e : l.getD i 0 = l[i] := by rw [List.getD_eq_getElem?_getD, List.getElem?_eq_getElem (by omega)]; rfl
  rw [msum, msum_map p f l i (by omega), List.take_succ_eq_append_getElem (by omega), List.map_append, List.sum_append, e]; simp
theorem count_nodup (a : Int) : ∀ (l : List Int), l.Nodup → (l.map fun x => if x = a then 1 else 0).sum = if a ∈ l then 1 else 0
 | [], _ => by simp
 | b :: l, h => by
  rw [List.nodup_cons] at h
  have ih := count_nodup a l h.2
  rw [List.map_cons, List.sum_cons, ih]
  by_cases hb : b = a
  ·
   subst hb
   rw [if_pos rfl, if_neg h.1, if_pos (by simp)]
  ·
   rw [if_neg hb, Nat.zero_add]
   by_cases ha : a ∈ l
   ·
    rw [if_pos ha, if_pos (by simp [ha])]
   ·
    rw [if_neg ha, if_neg (by rw [List.mem_cons]; rintro (h | h); exact hb h.symm; exact ha h)]
theorem count_sum (l : List Int) (hn : l.Nodup) : ∀ (m : List Int), (∀ x ∈ m, x ∈ l) → (l.map fun x => m.count x).sum = m.length
 | [], _ => by
  have e : ∀ l' : List Int, (l'.map fun x => ([] : List Int).count x).sum = 0 := fun l' => by
   induction l' with
   | nil => rfl
   | cons b l' ih => rw [List.map_cons, List.sum_cons, ih]; rfl
  exact e l
 | a :: m, h => by
  have ih := count_sum l hn m fun x hx => h x (by simp [hx])
  have e : (l.map fun x => (a :: m).count x) = l.map fun x => m.count x + (if x = a then 1 else 0) := List.map_congr_left fun x _ => by
   rw [List.count_cons]
   congr 1
   by_cases hx : x = a
   ·
    subst hx; simp
   ·
    rw [if_neg hx, if_neg]; simpa using fun h => hx h.symm
  have e2 : ∀ l' : List Int, (l'.map fun x => m.count x + (if x = a then 1 else 0)).sum = (l'.map fun x => m.count x).sum + (l'.map fun x => if x = a then 1 else 0).sum := fun l' => by
   induction l' with
   | nil => rfl
   | cons b l' ih => simp only [List.map_cons, List.sum_cons, ih]; omega
  rw [e, e2, ih, count_nodup a l hn, if_pos (h a (by simp)), List.length_cons]
theorem ofL_splits {p : Int} (hp : IsP p) {l : List Int} (rl : InR p l) (hl : l.length ≤ 24) : splitB p (ofL p l l.length) = true := by
 obtain ⟨a, b⟩ := ofL_po hp l l.length hl
 unfold splitB
 rw [decide_eq_true_eq, b, msum_map _ _ _ _ (Nat.le_refl _), List.take_length]
 have e : (rootsL p (ofL p l l.length)).map (multL p (ofL p l l.length)) = (rootsL p (ofL p l l.length)).map fun x => l.count x := List.map_congr_left fun x hx => by
  have hx := (mem_rootsL hp.p0).1 hx
  rw [ofL_mult hp hx.1 rl _ hl (Nat.le_refl _), List.take_length]
 rw [e, count_sum (rootsL p (ofL p l l.length)) (rts_nodup _ _ _) l fun x hx => (mem_rootsL hp.p0).2 ⟨rl x hx, ?_⟩]
 ·
  omega
 ·
  obtain ⟨j, hj, e⟩ := List.getElem_of_mem hx
  exact ofL_root hp l x _ ⟨j, hj, by rw [List.getD_eq_getElem?_getD, List.getElem?_eq_getElem hj, e]; rfl⟩
theorem mult_pos {p r : Int} (hp : IsP p) {f : List Int} (pf : Po p f) (h0 : 0 < f.length) (hv : valL p f r = 0) : 1 ≤ multL p f r := by
 rw [multL_step hp pf h0 hv]; omega
def nwA (s : Nat → Int) : Nat → Nat → Int
 | 0, t => if t = 0 then 1 else 0
 | n + 1, t => nwA s n t - s n * (if 1 ≤ t then nwA s n (t - 1) else 0)
def nwP (s : Nat → Int) (n k : Nat) : Int := su (fun j => s j ^ k) n
theorem nwA_zero (s : Nat → Int) : ∀ n t, n < t → nwA s n t = 0
 | 0, t, h => if_neg (by omega)
 | n + 1, t, h => by
  simp only [nwA]
  rw [nwA_zero s n t (by omega), if_pos (by omega), nwA_zero s n (t - 1) (by omega), Int.mul_zero]; rfl
theorem nwA_one (s : Nat → Int) : ∀ n, nwA s n 0 = 1
 | 0 => rfl
 | n + 1 => by simp [nwA, nwA_one s n]
theorem newton (s : Nat → Int) : ∀ n k, su (fun i => nwA s n i * nwP s n (k + 1 - i)) (k + 1) + ((k + 1 : Nat) : Int) * nwA s n (k + 1) = 0
 | 0, k => by
  rw [su_zero fun i _ => by simp [nwP, su]]
  simp [nwA]
 | n + 1, k => by
  have h1 := newton s n k
  have e1 : su (fun i => nwA s (n + 1) i * nwP s (n + 1) (k + 1 - i)) (k + 1)
    = su (fun i => nwA s n i * nwP s n (k + 1 - i)) (k + 1) - s n * su (fun i => (if 1 ≤ i then nwA s n (i - 1) else 0) * nwP s n (k + 1 - i)) (k + 1)
     + (su (fun i => nwA s n i * s n ^ (k + 1 - i)) (k + 1) - su (fun i => (if 1 ≤ i then nwA s n (i - 1) else 0) * s n ^ (k + 2 - i)) (k + 1)) := by
   rw [← su_mul, ← su_sub, ← su_sub, ← su_add]
   refine su_congr fun i hi => ?_
   show (nwA s n i - s n * (if 1 ≤ i then nwA s n (i - 1) else 0)) * (nwP s n (k + 1 - i) + s n ^ (k + 1 - i)) = _
   rw [show k + 2 - i = (k + 1 - i) + 1 by omega, Int.pow_succ]
   grind
  have e2 : su (fun i => (if 1 ≤ i then nwA s n (i - 1) else 0) * nwP s n (k + 1 - i)) (k + 1) = - ((k : Int) * nwA s n k) := by
   rw [su_head]
   simp only [show ¬ (1 ≤ 0) by omega, if_false, Int.zero_mul, Int.zero_add]
   cases k with
   | zero => simp [su]
   | succ k =>
    have h2 := newton s n k
    have e3 : su (fun i => (if 1 ≤ i + 1 then nwA s n (i + 1 - 1) else 0) * nwP s n (k + 1 + 1 - (i + 1))) (k + 1) = su (fun i => nwA s n i * nwP s n (k + 1 - i)) (k + 1) :=
     su_congr fun i _ => by rw [if_pos (by omega), Nat.add_sub_cancel, show k + 1 + 1 - (i + 1) = k + 1 - i by omega]
    rw [e3]; omega
  have e4 : su (fun i => nwA s n i * s n ^ (k + 1 - i)) (k + 1) - su (fun i => (if 1 ≤ i then nwA s n (i - 1) else 0) * s n ^ (k + 2 - i)) (k + 1) = nwA s n k * s n := by
   have e5 : su (fun i => (if 1 ≤ i then nwA s n (i - 1) else 0) * s n ^ (k + 2 - i)) (k + 1) = su (fun i => nwA s n i * s n ^ (k + 1 - i)) k := by
    rw [su_head]
    simp only [show ¬ (1 ≤ 0) by omega, if_false, Int.zero_mul, Int.zero_add]
    exact su_congr fun i _ => by rw [if_pos (by omega), Nat.add_sub_cancel, show k + 2 - (i + 1) = k + 1 - i by omega]
   rw [e5]
   simp only [su]
   rw [show k + 1 - k = 1 by omega, Int.pow_one]; omega
  rw [e1, e2, e4]
  simp only [nwA, show (1 ≤ k + 1) by omega, if_true, Nat.add_sub_cancel]
  have e6 : ((k + 1 : Nat) : Int) = (k : Int) + 1 := by omega
  rw [e6] at h1 ⊢
  grind
theorem ofL_nwA {p : Int} (hp : IsP p) (l : List Int) : ∀ n t, n ≤ 24 → t ≤ n → cg p (co (ofL p l n) (n - t)) (nwA (fun j => l.getD j 0) n t)
 | 0, t, _, h => by
  obtain rfl : t = 0 := by omega
  exact cg.refl _
 | n + 1, t, hn, h => by
  have hL := (ofL_po hp l n (by omega)).2
  have h1 := co_mul_lin hp.p0 (ofL p l n) ((-(l.getD n 0)) % p) (n + 1 - t)
  show cg p (co (mulL p (ofL p l n) [(-(l.getD n 0)) % p, 1]) (n + 1 - t)) (nwA (fun j => l.getD j 0) n t - l.getD n 0 * (if 1 ≤ t then nwA (fun j => l.getD j 0) n (t - 1) else 0))
  refine h1.trans ?_
  rw [Int.add_comm, Int.sub_eq_add_neg]
  refine cg.add ?_ ?_
  ·
   by_cases ht : t = n + 1
   ·
    subst ht
    rw [if_neg (by omega), nwA_zero _ n (n + 1) (by omega)]; exact cg.refl _
   ·
    rw [if_pos (by omega), show n + 1 - t - 1 = n - t by omega]
    exact ofL_nwA hp l n t (by omega) (by omega)
  ·
   rw [← Int.neg_mul]
   refine (cg.mod _ _).mul ?_
   by_cases ht : 1 ≤ t
   ·
    rw [if_pos ht, show n + 1 - t = n - (t - 1) by omega]
    exact ofL_nwA hp l n (t - 1) (by omega) (by omega)
   ·
    rw [if_neg ht, co_ge (by omega)]; exact cg.refl _
def psA (p : Int) (f : List Int) (i : Nat) : Int := if i < f.length then co f (f.length - 1 - i) * inv p (co f (f.length - 1)) else 0
def psN (p : Int) (f out : List Int) (k : Nat) : Int := (-(su (fun j => psA p f (j + 1) * co out (k - j)) k + ((k + 1 : Nat) : Int) * psA p f (k + 1))) % p
def psL (p : Int) (f : List Int) : Nat → List Int
 | 0 => [((f.length - 1 : Nat) : Int) % p]
 | k + 1 => psL p f k ++ [psN p f (psL p f k) k]
theorem psL_len (p : Int) (f : List Int) : ∀ k, (psL p f k).length = k + 1
 | 0 => rfl
 | k + 1 => by simp [psL, psL_len p f k]
theorem psL_inR {p : Int} (hp : 0 < p) (f : List Int) : ∀ k, InR p (psL p f k)
 | 0 => InR.one (emod_bd hp)
 | k + 1 => (psL_inR hp f k).append (InR.one (emod_bd hp))
theorem psA_zero {p : Int} {f : List Int} {i : Nat} (h : f.length ≤ i) : psA p f i = 0 := if_neg (by omega)
theorem psA_one {p : Int} {f : List Int} {i : Nat} (h : i < f.length) : psA p f i = co f (f.length - 1 - i) * inv p (co f (f.length - 1)) := if_pos h
theorem su_psA_cut {p : Int} {f : List Int} (out : List Int) (K i : Nat) (h1 : f.length ≤ i + 1) (h2 : i ≤ K) : su (fun j => psA p f (j + 1) * co out (K - j)) K = su (fun j => psA p f (j + 1) * co out (K - j)) i :=
 su_ext h2 fun j hj _ => by rw [psA_zero (by omega), Int.zero_mul]
theorem spec_ps {p : Int} {f : List Int} (hp : IsP p) (pf : Po p f) {d : Nat} (hd : f.length = d + 1) {N : Nat} (hN : N ≤ 24) : ∀ r K, K + r = N →
  Ev (fun k => spec_PowerSums.l0 k p f (N : Int) (d : Int) (psL p f K) (inv p (co f d)) ((K + 1 : Nat) : Int)) (psL p f N, 0) := by
 have hp2 := hp.p2
 have hpm := hp.pm
 have hp0 := hp.p0
 have lf := pf.len
 have hiv := inv_bd hp0 (co f d)
 have hA : ∀ i, i ≤ d → psA p f i = co f (d - i) * inv p (co f d) := fun i hi => by rw [psA_one (by omega), hd, Nat.add_sub_cancel]
 intro r
 induction r with
 | zero =>
  intro K h
  have q1 : ¬ (((K + 1 : Nat) : Int) ≤ (N : Int)) := by omega
  refine Ev.succ ?_
  simp only [spec_PowerSums.l0, if_neg q1]
  rw [show K = N by omega]
  exact Ev.now _
 | succ r ih =>
  intro K h
  have hl := psL_len p f K
  have hr := psL_inR hp0 f K
  have hnext := ih (K + 1) (by omega)
  have push : ∀ v, v = psN p f (psL p f K) K → Ev (fun k => spec_PowerSums.l0 k p f (N : Int) (d : Int) (psL p f K ++ [v]) (inv p (co f d)) (wrap64 (((K + 1 : Nat) : Int) + 1))) (psL p f N, 0) := fun v hv => by
   rw [wp1 (by omega), hv]; exact hnext
  have qlen : (psL p f K).length < 17592186044416 := by omega
  have qp : ¬ p = 0 := by omega
  have last : ∀ acc, 0 ≤ acc ∧ acc < p → cg p acc (-(su (fun j => psA p f (j + 1) * co (psL p f K) (K - j)) K)) → d < K + 1 → acc = psN p f (psL p f K) K := fun acc hb hc hlt => by
   unfold psN
   rw [psA_zero (show f.length ≤ K + 1 by omega), Int.mul_zero, Int.add_zero, ← hc.emod, Int.emod_eq_of_lt hb.1 hb.2]
  refine Ev.succ ?_
  have q1 : ((K + 1 : Nat) : Int) ≤ (N : Int) := by omega
  simp only [spec_PowerSums.l0, if_pos q1]
  have inner : ∀ m i acc, i + m = K → 0 ≤ acc ∧ acc < p → cg p acc (-(su (fun j => psA p f (j + 1) * co (psL p f K) (K - j)) i)) →
    Ev (fun k => spec_PowerSums.l1 k p f (N : Int) (d : Int) (psL p f K) (inv p (co f d)) ((K + 1 : Nat) : Int) acc ((i + 1 : Nat) : Int)) (psL p f N, 0) := by
   intro m
   induction m with
   | zero =>
    intro i acc hi hb hc
    obtain rfl : i = K := by omega
    have q2 : ¬ (((i + 1 : Nat) : Int) < ((i + 1 : Nat) : Int)) := by omega
    refine Ev.succ ?_
    simp only [spec_PowerSums.l1, if_neg q2]
    by_cases hk : i + 1 ≤ d
    ·
     have q3 : ((i + 1 : Nat) : Int) ≤ (d : Int) := by omega
     have q4 : wrap64 ((d : Int) - ((i + 1 : Nat) : Int)) = ((d - (i + 1) : Nat) : Int) := by rw [w64 (by omega) (by omega)]; omega
     have q5 : (0 : Int) ≤ ((d - (i + 1) : Nat) : Int) := by omega
     have q6 : ((d - (i + 1) : Nat) : Int) < (f.length : Int) := by omega
     have hco := pf.inR.co hp0 (d - (i + 1))
     have m1 := mul_bd2 hpm hco (y := inv p (co f d)) (by omega)
     have hem := emod_bd (x := co f (d - (i + 1)) * inv p (co f d)) hp0
     have hkm := emod_bd (x := ((i + 1 : Nat) : Int)) hp0
     have m2 := mul_bd2 hpm hkm (y := co f (d - (i + 1)) * inv p (co f d) % p) (by omega)
     simp only [if_pos q3, if_neg qp, q4, if_pos q5, if_pos q6, rd_n]
     rw [show (f.getD (d - (i + 1)) 0) = co f (d - (i + 1)) from rfl, w64 (x := co f (d - (i + 1)) * inv p (co f d)) (by omega) (by omega), tmod_nn m1.1, tmod_nn (show (0 : Int) ≤ ((i + 1 : Nat) : Int) by omega),
      w64 (x := ((i + 1 : Nat) : Int) % p * (co f (d - (i + 1)) * inv p (co f d) % p)) (by omega) (by omega), w64 (by omega) (by omega), spec_mod hp0 (by omega)]
     simp only [Option.bind_some, if_pos qlen]
     refine push _ ?_
     unfold psN
     refine cg.emod ?_
     rw [Int.neg_add, Int.sub_eq_add_neg]
     refine hc.add (((cg.mod _ _).mul ?_).neg)
     rw [hA _ hk]
     exact cg.mod _ _
    ·
     have q3 : ¬ ((i + 1 : Nat) : Int) ≤ (d : Int) := by omega
     simp only [if_neg q3, if_pos qlen]
     exact push _ (last acc hb hc (by omega))
   | succ m ihm =>
    intro i acc hi hb hc
    have q2 : ((i + 1 : Nat) : Int) < ((K + 1 : Nat) : Int) := by omega
    refine Ev.succ ?_
    simp only [spec_PowerSums.l1, if_pos q2]
    by_cases hk : i + 1 ≤ d
    ·
     have q3 : ((i + 1 : Nat) : Int) ≤ (d : Int) := by omega
     have q4 : wrap64 ((d : Int) - ((i + 1 : Nat) : Int)) = ((d - (i + 1) : Nat) : Int) := by rw [w64 (by omega) (by omega)]; omega
     have q5 : (0 : Int) ≤ ((d - (i + 1) : Nat) : Int) := by omega
     have q6 : ((d - (i + 1) : Nat) : Int) < (f.length : Int) := by omega
     have q7 : wrap64 (((K + 1 : Nat) : Int) - ((i + 1 : Nat) : Int)) = ((K - i : Nat) : Int) := by rw [w64 (by omega) (by omega)]; omega
     have q8 : (0 : Int) ≤ ((K - i : Nat) : Int) := by omega
     have q9 : ((K - i : Nat) : Int) < ((psL p f K).length : Int) := by omega
     have hco := pf.inR.co hp0 (d - (i + 1))
     have ho := hr.co hp0 (K - i)
     have m1 := mul_bd2 hpm hco (y := inv p (co f d)) (by omega)
     have hem := emod_bd (x := co f (d - (i + 1)) * inv p (co f d)) hp0
     have m2 := mul_bd2 hpm hem (y := co (psL p f K) (K - i)) (by omega)
     simp only [if_pos q3, if_neg qp, q4, if_pos q5, if_pos q6, rd_n, q7, if_pos q8, if_pos q9]
     rw [show (f.getD (d - (i + 1)) 0) = co f (d - (i + 1)) from rfl, show ((psL p f K).getD (K - i) 0) = co (psL p f K) (K - i) from rfl, w64 (x := co f (d - (i + 1)) * inv p (co f d)) (by omega) (by omega), tmod_nn m1.1,
      w64 (x := co f (d - (i + 1)) * inv p (co f d) % p * co (psL p f K) (K - i)) (by omega) (by omega), w64 (by omega) (by omega), spec_mod hp0 (by omega)]
     simp only [Option.bind_some]
     rw [wp1 (by omega)]
     refine ihm (i + 1) _ (by omega) (emod_bd hp0) ?_
     refine (cg.mod _ _).trans ?_
     rw [su, Int.neg_add, Int.sub_eq_add_neg]
     refine hc.add (cg.neg ?_)
     rw [hA _ hk]
     exact (cg.mod _ _).mul (cg.refl _)
    ·
     have q3 : ¬ ((i + 1 : Nat) : Int) ≤ (d : Int) := by omega
     have q3' : ¬ ((K + 1 : Nat) : Int) ≤ (d : Int) := by omega
     simp only [if_neg q3, if_neg q3', if_pos qlen]
     refine push _ (last acc hb ?_ (by omega))
     rw [su_psA_cut (p := p) (f := f) (psL p f K) K i (by omega) (by omega)]
     exact hc
  exact inner K 0 0 (by omega) (by omega) (by simp only [su]; exact cg.refl _)
theorem sgn_of {p : Int} {f : List Int} (hp : IsP p) (pf : Po p f) {d : Nat} (hd : f.length = d + 1) (i : Nat) (hi : i ≤ 1000) : ∃ s, impl_field_powerSums_c1.f p (monicL p f) (d : Int) (i : Int) = some s ∧ (0 ≤ s ∧ s < p) ∧ cg p s (-(psA p f i)) := by
 have hp2 := hp.p2
 have hpm := hp.pm
 have hp0 := hp.p0
 have lf := pf.len
 obtain ⟨pm, lm, _⟩ := monic_po hp pf (by omega)
 unfold impl_field_powerSums_c1.f
 by_cases h : i ≤ d
 ·
  have q1 : ¬ ((i : Int) > (d : Int)) := by omega
  have q2 : wrap64 ((d : Int) - (i : Int)) = ((d - i : Nat) : Int) := by rw [w64 (by omega) (by omega)]; omega
  have q3 : (0 : Int) ≤ ((d - i : Nat) : Int) := by omega
  have q4 : ((d - i : Nat) : Int) < ((monicL p f).length : Int) := by omega
  have hco := pm.inR.co hp0 (d - i)
  refine ⟨(-(co (monicL p f) (d - i))) % p, ?_, emod_bd hp0, ?_⟩
  ·
   simp only [if_neg q1, q2, if_pos q3, if_pos q4, rd_n]
   rw [show ((monicL p f).getD (d - i) 0) = co (monicL p f) (d - i) from rfl, w64 (by omega) (by omega), impl_mod hp0 (by omega)]
  ·
   refine (cg.mod _ _).trans (cg.neg ?_)
   rw [psA_one (by omega), co_monic hp0, rd_top f (by omega), hd, Nat.add_sub_cancel, Int.mul_comm (co f (d - i))]
   exact cg.mod _ _
 ·
  have q1 : (i : Int) > (d : Int) := by omega
  exact ⟨0, by simp only [if_pos q1], ⟨Int.le_refl _, hp0⟩, by rw [psA_zero (by omega)]; exact cg.refl _⟩
theorem impl_ps {p : Int} {f : List Int} (hp : IsP p) (pf : Po p f) {d : Nat} (hd : f.length = d + 1) {N : Nat} (hN : N ≤ 24) : ∀ r K, K + r = N →
  Ev (fun k => impl_field_powerSums.l0 k (N : Int) (psL p f K) ((K + 1 : Nat) : Int) p (monicL p f) (d : Int)) (psL p f N) := by
 have hp2 := hp.p2
 have hpm := hp.pm
 have hp0 := hp.p0
 have lf := pf.len
 intro r
 induction r with
 | zero =>
  intro K h
  have q1 : ¬ (((K + 1 : Nat) : Int) ≤ (N : Int)) := by omega
  refine Ev.succ ?_
  simp only [impl_field_powerSums.l0, if_neg q1]
  rw [show K = N by omega]
  exact Ev.now _
 | succ r ih =>
  intro K h
  have hl := psL_len p f K
  have hr := psL_inR hp0 f K
  have hnext := ih (K + 1) (by omega)
  have qlen : (psL p f K).length < 17592186044416 := by omega
  obtain ⟨s, es, sb, sc⟩ := sgn_of hp pf hd (K + 1) (by omega)
  have hkm := emod_bd (x := ((K + 1 : Nat) : Int)) hp0
  have m0 := mul_bd2 hpm hkm (y := s) (by omega)
  have q1 : ((K + 1 : Nat) : Int) ≤ (N : Int) := by omega
  refine Ev.succ ?_
  simp only [impl_field_powerSums.l0, if_pos q1, impl_mod hp0 (show p ≤ 1000000000 by omega), Option.bind_some, es, impl_mul hp0 (show p ≤ 1000000000 by omega) (show -9223372036854775808 ≤ ((K + 1 : Nat) : Int) % p * s by omega) (show ((K + 1 : Nat) : Int) % p * s ≤ 9223372036854775807 by omega)]
  have inner : ∀ m i acc, i + m = K → 0 ≤ acc ∧ acc < p → cg p acc (-(su (fun j => psA p f (j + 1) * co (psL p f K) (K - j)) i + ((K + 1 : Nat) : Int) * psA p f (K + 1))) →
    Ev (fun k => impl_field_powerSums.l1 k (N : Int) (psL p f K) ((K + 1 : Nat) : Int) acc ((i + 1 : Nat) : Int) p (monicL p f) (d : Int)) (psL p f N) := by
   intro m
   induction m with
   | zero =>
    intro i acc hi hb hc
    obtain rfl : i = K := by omega
    have q2 : ¬ (((i + 1 : Nat) : Int) < ((i + 1 : Nat) : Int)) := by omega
    refine Ev.succ ?_
    simp only [impl_field_powerSums.l1, if_neg q2, if_pos qlen]
    rw [wp1 (by omega)]
    have e : acc = psN p f (psL p f i) i := by
     unfold psN
     rw [← hc.emod, Int.emod_eq_of_lt hb.1 hb.2]
    rw [e]; exact hnext
   | succ m ihm =>
    intro i acc hi hb hc
    obtain ⟨s', es', sb', sc'⟩ := sgn_of hp pf hd (i + 1) (by omega)
    have q2 : ((i + 1 : Nat) : Int) < ((K + 1 : Nat) : Int) := by omega
    have q7 : wrap64 (((K + 1 : Nat) : Int) - ((i + 1 : Nat) : Int)) = ((K - i : Nat) : Int) := by rw [w64 (by omega) (by omega)]; omega
    have q8 : (0 : Int) ≤ ((K - i : Nat) : Int) := by omega
    have q9 : ((K - i : Nat) : Int) < ((psL p f K).length : Int) := by omega
    have ho := hr.co hp0 (K - i)
    have m2 := mul_bd2 hpm sb' (y := co (psL p f K) (K - i)) (by omega)
    refine Ev.succ ?_
    simp only [impl_field_powerSums.l1, if_pos q2, es', Option.bind_some, q7, if_pos q8, if_pos q9, rd_n]
    rw [show ((psL p f K).getD (K - i) 0) = co (psL p f K) (K - i) from rfl, w64 (x := s' * co (psL p f K) (K - i)) (by omega) (by omega), w64 (by omega) (by omega), impl_mod hp0 (by omega)]
    simp only [Option.bind_some]
    rw [wp1 (by omega)]
    refine ihm (i + 1) _ (by omega) (emod_bd hp0) ?_
    refine (cg.mod _ _).trans ?_
    have hc2 := hc.add (sc'.mul (cg.refl (co (psL p f K) (K - i))))
    refine hc2.trans (cg.of_eq ?_)
    rw [su]
    grind
  refine inner K 0 _ (by omega) (emod_bd hp0) ?_
  refine (cg.mod _ _).trans ?_
  refine ((cg.mod _ _).mul sc).trans (cg.of_eq ?_)
  simp only [su]
  grind
theorem impl_powersums {p : Int} {f : List Int} (hp : IsP p) (pf : Po p f) (h0 : 0 < f.length) {N : Nat} (hN : N ≤ 24) : Ev (fun k => impl_field_powerSums.f k p f (N : Int)) (psL p f N) := by
 have lf := pf.len
 obtain ⟨d, hd⟩ : ∃ d, f.length = d + 1 := ⟨f.length - 1, by omega⟩
 obtain ⟨pm, lm, _⟩ := monic_po hp pf h0
 simp only [impl_field_powerSums.f]
 refine Ev.bind (impl_monic hp.p2 hp.pm (by omega) pf.inR (by omega)) ?_
 rw [impl_deg _ (by omega), lm, hd]
 simp only [Option.bind_some, show ((d + 1 : Nat) : Int) - 1 = (d : Int) by omega, impl_mod hp.p0 (show p ≤ 1000000000 by have := hp.pm; omega)]
 have := impl_ps hp pf hd hN N 0 (by omega)
 simp only [psL, hd, Nat.add_sub_cancel] at this
 exact this
theorem su_one : ∀ n, su (fun _ => 1) n = (n : Int)
 | 0 => rfl
 | n + 1 => by rw [su, su_one n]; omega
theorem co_snoc (l : List Int) (x : Int) (j : Nat) : co (l ++ [x]) j = if j < l.length then co l j else if j = l.length then x else 0 := by
 unfold co
 rw [List.getD_eq_getElem?_getD, List.getD_eq_getElem?_getD]
 by_cases h : j < l.length
 ·
  rw [if_pos h, List.getElem?_append_left h]
 ·
  rw [if_neg h, List.getElem?_append_right (by omega)]
  by_cases h2 : j = l.length
  ·
   rw [if_pos h2, h2, Nat.sub_self]; rfl
  ·
   rw [if_neg h2]
   obtain ⟨m, hm⟩ : ∃ m, j - l.length = m + 1 := ⟨j - l.length - 1, by omega⟩
   rw [hm]; rfl
theorem ofL_top {p : Int} (hp : IsP p) {l : List Int} (hl : l.length ≤ 24) : co (ofL p l l.length) l.length = 1 := by
 have h := ofL_nwA hp l l.length 0 hl (Nat.zero_le _)
 rw [nwA_one, Nat.sub_zero] at h
 exact h.eq ((ofL_inR hp.p2 l l.length).co hp.p0 _) (by have := hp.p2; omega)
theorem psA_of {p : Int} (hp : IsP p) {l : List Int} (hl : l.length ≤ 24) (t : Nat) : cg p (psA p (ofL p l l.length) t) (nwA (fun j => l.getD j 0) l.length t) := by
 have hL := (ofL_po hp l l.length hl).2
 by_cases h : t ≤ l.length
 ·
  rw [psA_one (by omega), hL, Nat.add_sub_cancel, ofL_top hp hl]
  have h1 := ofL_nwA hp l l.length t hl h
  have h2 : cg p (inv p 1) 1 := by
   have := inv_one hp (x := 1) (by have := hp.p2; omega)
   rwa [Int.one_mul] at this
  have := h1.mul h2
  rwa [Int.mul_one] at this
 ·
  rw [psA_zero (by omega), nwA_zero _ _ _ (by omega)]; exact cg.refl _
theorem psL_of {p : Int} (hp : IsP p) {l : List Int} (hl : l.length ≤ 24) : ∀ K j, j ≤ K → cg p (co (psL p (ofL p l l.length) K) j) (nwP (fun j => l.getD j 0) l.length j) := by
 have hL := (ofL_po hp l l.length hl).2
 intro K
 induction K with
 | zero =>
  intro j hj
  obtain rfl : j = 0 := by omega
  have e : nwP (fun j => l.getD j 0) l.length 0 = (l.length : Int) := by
   unfold nwP
   rw [su_congr (g := fun _ => 1) fun i _ => by rw [Int.pow_zero], su_one]
  rw [e]
  show cg p ((((ofL p l l.length).length - 1 : Nat) : Int) % p) _
  rw [hL, Nat.add_sub_cancel]
  exact cg.mod _ _
 | succ K ih =>
  intro j hj
  have hlen := psL_len p (ofL p l l.length) K
  rw [psL, co_snoc, hlen]
  by_cases h : j < K + 1
  ·
   rw [if_pos h]; exact ih j (by omega)
  ·
   obtain rfl : j = K + 1 := by omega
   rw [if_neg h, if_pos rfl]
   refine (cg.mod _ _).trans ?_
   have hn := newton (fun j => l.getD j 0) l.length K
   rw [su_head, nwA_one, Int.one_mul, Nat.sub_zero] at hn
   have e : nwP (fun j => l.getD j 0) l.length (K + 1) = -(su (fun i => nwA (fun j => l.getD j 0) l.length (i + 1) * nwP (fun j => l.getD j 0) l.length (K + 1 - (i + 1))) K + ((K + 1 : Nat) : Int) * nwA (fun j => l.getD j 0) l.length (K + 1)) := by omega
   rw [e]
   refine (cg.add (cg.su fun i hi => ?_) ((cg.refl _).mul (psA_of hp hl _))).neg
   rw [show K + 1 - (i + 1) = K - i by omega]
   exact (psA_of hp hl _).mul (ih _ (by omega))
theorem psL_val {p : Int} (hp : IsP p) {l : List Int} (hl : l.length ≤ 24) {K j : Nat} (hj : j ≤ K) : co (psL p (ofL p l l.length) K) j = su (fun i => co l i ^ j) l.length % p := by
 have h := psL_of hp hl K j hj
 have hr := (psL_inR hp.p0 (ofL p l l.length) K).co hp.p0 j
 rw [← Int.emod_eq_of_lt hr.1 hr.2]
 exact h.emod
theorem isP_nat (p : Nat) (h2 : 2 ≤ p) (hm : p ≤ 10007) (h : ∀ d, d < 101 → 2 ≤ d → d * d ≤ p → p % d ≠ 0) : IsP (p : Int) := by
 refine ⟨by omega, by omega, ?_⟩
 rw [Int.toNat_natCast]
 refine Pr.of_trial h2 fun d hd hdd => h d ?_ hd hdd
 exact Nat.lt_of_not_le fun hge => by
  have := Nat.mul_le_mul hge hge
  omega
theorem draw_isP {v : Int} (hv : v ∈ ([2, 3, 5, 7, 7, 11, 13, 17, 31, 101, 997, 10007] : List Int)) : IsP v := by
 simp only [List.mem_cons, List.not_mem_nil, or_false] at hv
 rcases hv with rfl | rfl | rfl | rfl | rfl | rfl | rfl | rfl | rfl | rfl | rfl | rfl
 ·
  exact isP_nat 2 (by decide) (by decide) (by decide)
 ·
  exact isP_nat 3 (by decide) (by decide) (by decide)
 ·
  exact isP_nat 5 (by decide) (by decide) (by decide)
 ·
  exact isP_nat 7 (by decide) (by decide) (by decide)
 ·
  exact isP_nat 7 (by decide) (by decide) (by decide)
 ·
  exact isP_nat 11 (by decide) (by decide) (by decide)
 ·
  exact isP_nat 13 (by decide) (by decide) (by decide)
 ·
  exact isP_nat 17 (by decide) (by decide) (by decide)
 ·
  exact isP_nat 31 (by decide) (by decide) (by decide)
 ·
  exact isP_nat 101 (by decide) (by decide) (by decide)
 ·
  exact isP_nat 997 (by decide) (by decide) (by decide +kernel)
 ·
  exact isP_nat 10007 (by decide) (by decide) (by decide +kernel)
theorem draw6_j1 {l : List Int} (hb : Bytes l) {i : Int} (h0 : 0 ≤ i) (h1 : i ≤ l.length) (s p : Int) (f : List Int) (hf : f.length ≤ 1000) :
  ∃ (q : Int) (g : List Int) (j t : Int), Ev (fun k => spec_l06Draw.j1 k p f l i s) (q, g, j, t) ∧ 0 ≤ j ∧ j ≤ l.length ∧ g.length ≤ 1001 := by
 obtain ⟨v, j, t, e, j0, j1, v0, v1⟩ := draw_next hb h0 h1 s 40
 have ho : spec_l01Own.f f = some f := own_some f (by omega)
 have hl : f.length < 17592186044416 := by omega
 by_cases c0 : v = 0
 ·
  refine ⟨p, f ++ [0], j, t, Ev.succ ?_, j0, j1, by simp; omega⟩
  simp only [spec_l06Draw.j1, e, Option.bind_some, if_pos c0, ho, if_pos hl]; exact Ev.now _
 by_cases c1 : v = 1
 ·
  obtain ⟨v', j', t', e', j0', j1', _⟩ := draw_pick hb j0 j1 t ([0, 1, 4, 9] : List Int) (by simp)
  refine ⟨v', f, j', t', Ev.succ ?_, j0', j1', by omega⟩
  simp only [spec_l06Draw.j1, e, Option.bind_some, if_neg c0, if_pos c1, e']; exact Ev.now _
 by_cases c2 : v = 2
 ·
  refine ⟨p, [], j, t, Ev.succ ?_, j0, j1, by simp⟩
  simp only [spec_l06Draw.j1, e, Option.bind_some, if_neg c0, if_neg c1, if_pos c2]; exact Ev.now _
 ·
  refine ⟨p, f, j, t, Ev.succ ?_, j0, j1, by omega⟩
  simp only [spec_l06Draw.j1, e, Option.bind_some, if_neg c0, if_neg c1, if_neg c2]; exact Ev.now _
theorem mn_le (a b : Int) : mn a b ≤ a ∧ mn a b ≤ b ∧ (1 ≤ a → 1 ≤ b → 1 ≤ mn a b) := by unfold mn; split <;> omega
theorem draw6_l0 {l : List Int} (hb : Bytes l) {p : Int} (hp : IsP p) : ∀ (d : Nat) (out : List Int) (i s : Int), 0 ≤ i → i ≤ l.length → out.length + d ≤ 10 → InR p out →
  ∃ (q : Int) (g : List Int) (j t : Int), Ev (fun k => spec_l06Draw.l0 k p out (d : Int) l i s) (q, g, j, t) ∧ 0 ≤ j ∧ j ≤ l.length ∧ g.length ≤ 1001 := by
 have hp2 := hp.p2
 have hpm := hp.pm
 intro d
 induction d with
 | zero =>
  intro out i s h0 h1 hl hr
  have hof := spec_of hp (by omega) hr
  have lof := ofL_len p out out.length
  have rof := ofL_inR (p := p) hp.p2 out out.length
  obtain ⟨v, j, t, e, j0, j1, v0, v1⟩ := draw_next hb h0 h1 s 3
  have q1 : ¬ (((0 : Nat) : Int) > 0) := by omega
  by_cases hv : v = 0
  ·
   obtain ⟨g, j2, t2, e2, j20, j21, lg, rg⟩ := draw_poly hb (p := p) (n := 3) (by omega) (by omega) (by omega) j0 j1 t
   have lm := mulL_len p (ofL p out out.length) g
   obtain ⟨q, h, j3, t3, e3, r3⟩ := draw6_j1 hb j20 j21 t2 p (mulL p (ofL p out out.length) g) (by omega)
   refine ⟨q, h, j3, t3, Ev.succ ?_, r3⟩
   simp only [spec_l06Draw.l0, if_neg q1]
   refine Ev.bind hof ?_
   simp only [e, Option.bind_some, if_pos hv]
   refine Ev.bind e2 ?_
   refine Ev.bind (spec_product hp.p2 hp.pm (by omega) (show g.length ≤ 1000 by omega) rof rg) ?_
   exact e3
  ·
   obtain ⟨q, h, j3, t3, e3, r3⟩ := draw6_j1 hb j0 j1 t p (ofL p out out.length) (by omega)
   refine ⟨q, h, j3, t3, Ev.succ ?_, r3⟩
   simp only [spec_l06Draw.l0, if_neg q1]
   refine Ev.bind hof ?_
   simp only [e, Option.bind_some, if_neg hv]
   exact e3
 | succ d ih =>
  intro out i s h0 h1 hl hr
  obtain ⟨v, j, t, e, j0, j1, v0, v1⟩ := draw_next hb h0 h1 s p
  obtain ⟨v', j', t', e', j0', j1', v0', v1'⟩ := draw_next hb j0 j1 t (mn p 4)
  obtain ⟨x, j2, t2, e2, j20, j21, hx⟩ := draw_pick hb j0' j1' t' ([v, v'] : List Int) (by simp)
  have hm := mn_le p 4
  have v2 := v1 (by omega)
  have v2' := v1' (hm.2.2 (by omega) (by omega))
  have hx2 : 0 ≤ x ∧ x < p := by simp at hx; omega
  obtain ⟨q, g, j3, t3, e3, r3⟩ := ih (out ++ [x]) j2 t2 j20 j21 (by simp; omega) (hr.append (InR.one hx2))
  refine ⟨q, g, j3, t3, Ev.succ ?_, r3⟩
  have q1 : ((d + 1 : Nat) : Int) > 0 := by omega
  have q2 : out.length < 17592186044416 := by omega
  have q3 : wrap64 (((d + 1 : Nat) : Int) - 1) = (d : Int) := by rw [w64 (by omega) (by omega)]; omega
  simp only [spec_l06Draw.l0, if_pos q1, e, e', e2, Option.bind_some, if_pos q2, q3]
  exact e3
theorem draw6 {l : List Int} (hb : Bytes l) {i : Int} (h0 : 0 ≤ i) (h1 : i ≤ l.length) (s : Int) :
  ∃ (q : Int) (g : List Int) (j t : Int), Ev (fun k => spec_l06Draw.f k l i s) (q, g, j, t) ∧ 0 ≤ j ∧ j ≤ l.length ∧ g.length ≤ 1001 := by
 obtain ⟨p, j, t, e, j0, j1, hp⟩ := draw_prime hb h0 h1 s
 have hp := draw_isP hp
 have hp2 := hp.p2
 obtain ⟨v, j2, t2, e2, j20, j21, v0, v1⟩ := draw_next hb j0 j1 t 12
 have v1 := v1 (by omega)
 obtain ⟨n, j3, t3, e3, j30, j31, hn⟩ := draw_pick hb j20 j21 t2 ([1, 2, 3, 4, v] : List Int) (by simp)
 have hn' : 0 ≤ n ∧ n ≤ 100 := by simp at hn; omega
 obtain ⟨f, j4, t4, e4, j40, j41, lf, rf⟩ := draw_poly hb (p := p) (n := n) (by omega) hn'.1 hn'.2 j30 j31 t3
 obtain ⟨v5, j5, t5, e5, j50, j51, _⟩ := draw_next hb j40 j41 t4 2
 by_cases hv : v5 = 0
 ·
  obtain ⟨v6, j6, t6, e6, j60, j61, a6, b6⟩ := draw_next hb j50 j51 t5 6
  have b6 := b6 (by omega)
  obtain ⟨m, rfl⟩ : ∃ m : Nat, v6 = (m : Int) := ⟨v6.toNat, by omega⟩
  obtain ⟨q, g, j7, t7, e7, r7⟩ := draw6_l0 hb hp m [] j6 t6 j60 j61 (by simp; omega) InR.nil
  refine ⟨q, g, j7, t7, ?_, r7⟩
  simp only [spec_l06Draw.f, e, e2, e3, Option.bind_some]
  refine Ev.bind e4 ?_
  simp only [e5, Option.bind_some, if_pos hv, e6]
  exact e7
 ·
  obtain ⟨q, g, j7, t7, e7, r7⟩ := draw6_j1 hb j50 j51 t5 p f (by omega)
  refine ⟨q, g, j7, t7, ?_, r7⟩
  simp only [spec_l06Draw.f, e, e2, e3, Option.bind_some]
  refine Ev.bind e4 ?_
  simp only [e5, Option.bind_some, if_neg hv]
  exact e7
theorem draw_rootsin {l : List Int} (hb : Bytes l) : ∃ (p : Int) (f : List Int), Ev (fun k => spec_DrawRootsIn.f k l) (p, f) ∧ f.length ≤ 1001 := by
 obtain ⟨s, hs⟩ := draw_from l hb.1
 obtain ⟨p, f, j, t, e, j0, j1, lf⟩ := draw6 hb (i := 0) (by omega) (by omega) s
 exact ⟨p, f, by simp only [spec_DrawRootsIn.f]; exact Ev.bind hs (Ev.bind e (Ev.now _)), lf⟩
theorem draw_powersums {l : List Int} (hb : Bytes l) : ∃ (p : Int) (f : List Int) (n : Int), Ev (fun k => spec_DrawPowerSums.f k l) (p, f, n) ∧ f.length ≤ 1001 := by
 obtain ⟨s, hs⟩ := draw_from l hb.1
 obtain ⟨p, f, j, t, e, j0, j1, lf⟩ := draw6 hb (i := 0) (by omega) (by omega) s
 obtain ⟨v, j2, t2, e2, j20, j21, _⟩ := draw_next hb j0 j1 t 8
 obtain ⟨w, j3, t3, e3, j30, j31⟩ := draw_near hb j20 j21 t2 24
 obtain ⟨n, j4, t4, e4, _⟩ := draw_pick hb j30 j31 t3 ([v, w] : List Int) (by simp)
 refine ⟨p, f, n, ?_, lf⟩
 simp only [spec_DrawPowerSums.f]
 refine Ev.bind hs ?_
 refine Ev.bind e ?_
 simp only [e2, e3, e4, Option.bind_some]; exact Ev.now _
theorem draw_roots_l0 {l : List Int} (hb : Bytes l) {p : Int} (hp : 1 ≤ p) : ∀ (d : Nat) (out : List Int) (i s : Int), 0 ≤ i → i ≤ l.length → out.length + d ≤ 100 →
  ∃ (q : Int) (g : List Int), Ev (fun k => spec_DrawPolynomialOfRoots.l0 k p out (d : Int) l i s) (q, g) ∧ g.length ≤ 1001 := by
 intro d
 induction d with
 | zero =>
  intro out i s h0 h1 hl
  obtain ⟨v, j, t, e, j0, j1, v0, v1⟩ := draw_next hb h0 h1 s 24
  have q1 : ¬ (((0 : Nat) : Int) > 0) := by omega
  have q2 : out.length < 17592186044416 := by omega
  by_cases c0 : v = 0
  ·
   refine ⟨p, out ++ [p], Ev.succ ?_, by simp; omega⟩
   simp only [spec_DrawPolynomialOfRoots.l0, if_neg q1, e, Option.bind_some, if_pos c0, if_pos q2]; exact Ev.now _
  by_cases c1 : v = 1
  ·
   obtain ⟨v', j', t', e', _⟩ := draw_pick hb j0 j1 t ([0, 9] : List Int) (by simp)
   refine ⟨v', out, Ev.succ ?_, by omega⟩
   simp only [spec_DrawPolynomialOfRoots.l0, if_neg q1, e, Option.bind_some, if_neg c0, if_pos c1, e']; exact Ev.now _
  ·
   refine ⟨p, out, Ev.succ ?_, by omega⟩
   simp only [spec_DrawPolynomialOfRoots.l0, if_neg q1, e, Option.bind_some, if_neg c0, if_neg c1]; exact Ev.now _
 | succ d ih =>
  intro out i s h0 h1 hl
  obtain ⟨v, j, t, e, j0, j1, v0, v1⟩ := draw_next hb h0 h1 s p
  obtain ⟨q, g, e2, lg⟩ := ih (out ++ [v]) j t j0 j1 (by simp; omega)
  refine ⟨q, g, Ev.succ ?_, lg⟩
  have q1 : ((d + 1 : Nat) : Int) > 0 := by omega
  have q2 : out.length < 17592186044416 := by omega
  have q3 : wrap64 (((d + 1 : Nat) : Int) - 1) = (d : Int) := by rw [w64 (by omega) (by omega)]; omega
  simp only [spec_DrawPolynomialOfRoots.l0, if_pos q1, e, Option.bind_some, if_pos q2, q3]
  exact e2
theorem draw_ofroots {l : List Int} (hb : Bytes l) : ∃ (p : Int) (f : List Int), Ev (fun k => spec_DrawPolynomialOfRoots.f k l) (p, f) ∧ f.length ≤ 1001 := by
 obtain ⟨s, hs⟩ := draw_from l hb.1
 obtain ⟨p, j, t, e, j0, j1, hp⟩ := draw_prime hb (i := 0) (by omega) (by omega) s
 have hp := (draw_isP hp).p2
 obtain ⟨v, j2, t2, e2, j20, j21, v0, v1⟩ := draw_next hb j0 j1 t 7
 obtain ⟨w, j3, t3, e3, j30, j31⟩ := draw_near hb j20 j21 t2 24
 obtain ⟨n, j4, t4, e4, j40, j41, hn⟩ := draw_pick hb j30 j31 t3 ([v, w] : List Int) (by simp)
 have hm := mn_le n 25
 rcases Int.le_total 0 (mn n 25) with h | h
 ·
  obtain ⟨m, hm'⟩ : ∃ m : Nat, mn n 25 = (m : Int) := ⟨(mn n 25).toNat, by omega⟩
  obtain ⟨q, g, e5, lg⟩ := draw_roots_l0 hb (p := p) (by omega) m [] j4 t4 j40 j41 (by simp; omega)
  refine ⟨q, g, ?_, lg⟩
  simp only [spec_DrawPolynomialOfRoots.f]
  refine Ev.bind hs ?_
  simp only [e, e2, e3, e4, Option.bind_some, hm']
  exact e5
 ·
  obtain ⟨q, g, e5, lg⟩ := draw_roots_l0 hb (p := p) (by omega) 0 [] j4 t4 j40 j41 (by simp)
  refine ⟨q, g, ?_, lg⟩
  simp only [spec_DrawPolynomialOfRoots.f]
  refine Ev.bind hs ?_
  simp only [e, e2, e3, e4, Option.bind_some]
  refine (show Ev (fun k => spec_DrawPolynomialOfRoots.l0 k p [] (mn n 25) l j4 t4) (q, g) from ?_)
  obtain ⟨K, hK⟩ := e5
  refine ⟨K + 1, fun k hk => ?_⟩
  obtain ⟨k, rfl⟩ : ∃ m, k = m + 1 := ⟨k - 1, by omega⟩
  have := hK (k + 1) (by omega)
  simp only [spec_DrawPolynomialOfRoots.l0, if_neg (show ¬ (((0 : Nat) : Int) > 0) by omega)] at this
  simp only [spec_DrawPolynomialOfRoots.l0, if_neg (show ¬ (mn n 25 > 0) by omega)]
  exact this
theorem draw_mult_tail {l : List Int} (hb : Bytes l) {i : Int} (h0 : 0 ≤ i) (h1 : i ≤ l.length) (s p x : Int) (f g : List Int) : ∃ r : Int, Ev (fun k => spec_DrawMultiplicityOf.j1 k p f x g false l i s) (p, f, r) := by
 obtain ⟨v, j, t, e, _⟩ := draw_next hb h0 h1 s 40
 exact ⟨_, Ev.succ (by simp only [spec_DrawMultiplicityOf.j1, Bool.false_eq_true, if_false, e, Option.bind_some]; exact Ev.now _)⟩
theorem draw_multiplicity {l : List Int} (hb : Bytes l) : ∃ (p : Int) (f : List Int) (r : Int), Ev (fun k => spec_DrawMultiplicityOf.f k l) (p, f, r) ∧ f.length ≤ 1001 := by
 obtain ⟨s, hs⟩ := draw_from l hb.1
 obtain ⟨p, f, j, t, e, j0, j1, lf⟩ := draw6 hb (i := 0) (by omega) (by omega) s
 obtain ⟨x, j2, t2, e2, j20, j21, _⟩ := draw_next hb j0 j1 t (mx (mn p 5) 1)
 have hfalse : ∃ r : Int, Ev (fun k => spec_DrawMultiplicityOf.j0 k p f x false l j2 t2) (p, f, r) := by
  obtain ⟨v, j3, t3, e3, _⟩ := draw_next hb j20 j21 t2 40
  exact ⟨_, Ev.succ (by simp only [spec_DrawMultiplicityOf.j0, Bool.false_eq_true, if_false, e3, Option.bind_some]; exact Ev.now _)⟩
 have hpr := spec_prime p
 cases hp : primeB p with
 | false =>
  obtain ⟨r, e3⟩ := hfalse
  refine ⟨p, f, r, ?_, lf⟩
  simp only [spec_DrawMultiplicityOf.f]
  refine Ev.bind hs ?_
  refine Ev.bind e ?_
  simp only [e2, Option.bind_some]
  refine Ev.bind hpr ?_
  simp only [hp, Bool.false_eq_true, if_false]
  exact e3
 | true =>
  have hq := primeB_iff.1 hp
  cases hb2 : polyB p f with
  | false =>
   obtain ⟨r, e3⟩ := hfalse
   refine ⟨p, f, r, ?_, lf⟩
   simp only [spec_DrawMultiplicityOf.f]
   refine Ev.bind hs ?_
   refine Ev.bind e ?_
   simp only [e2, Option.bind_some]
   refine Ev.bind hpr ?_
   simp only [hp, if_true]
   refine Ev.bind (spec_poly p f (by omega)) ?_
   simp only [hb2, Bool.false_eq_true, if_false]
   exact e3
  | true =>
   have pf := polyB_iff.1 hb2
   have main : ∃ r : Int, Ev (fun k => spec_DrawMultiplicityOf.j0 k p f x (decide ((f.length : Int) > 0)) l j2 t2) (p, f, r) := by
    have lf' := pf.len
    by_cases h0 : (f.length : Int) > 0
    ·
     simp only [decide_eq_true h0]
     have hro := spec_roots hq.p2 hq.pm (by omega) pf.inR
     have lro := rootsL_len (p := p) hq.p0 hq.pm f
     by_cases hr : ((rootsL p f).length : Int) > 0
     ·
      obtain ⟨v, j3, t3, e3, j30, j31, _⟩ := draw_next hb j20 j21 t2 3
      by_cases hv : v > 0
      ·
       obtain ⟨y, j4, t4, e4, j40, j41, y0, y1⟩ := draw_next hb j30 j31 t3 ((rootsL p f).length : Int)
       have y1 := y1 (by omega)
       obtain ⟨z, j5, t5, e5, _⟩ := draw_next hb j40 j41 t4 40
       refine ⟨wrap64 ((rd (rootsL p f) y) + (wrap64 ((wrap64 (Int.tdiv z 39)) * 10007))), Ev.succ ?_⟩
       simp only [spec_DrawMultiplicityOf.j0, if_true]
       refine Ev.bind hro ?_
       simp only [if_pos hr, e3, Option.bind_some, decide_eq_true hv]
       refine Ev.succ ?_
       simp only [spec_DrawMultiplicityOf.j1, if_true, e4, Option.bind_some, if_pos y0, if_pos y1, e5]
       exact Ev.now _
      ·
       obtain ⟨r, e6⟩ := draw_mult_tail hb j30 j31 t3 p x f (rootsL p f)
       refine ⟨r, Ev.succ ?_⟩
       simp only [spec_DrawMultiplicityOf.j0, if_true]
       refine Ev.bind hro ?_
       simp only [if_pos hr, e3, Option.bind_some, decide_eq_false hv]
       exact e6
     ·
      obtain ⟨r, e6⟩ := draw_mult_tail hb j20 j21 t2 p x f (rootsL p f)
      refine ⟨r, Ev.succ ?_⟩
      simp only [spec_DrawMultiplicityOf.j0, if_true]
      refine Ev.bind hro ?_
      simp only [if_neg hr]
      exact e6
    ·
     simp only [decide_eq_false h0]
     exact hfalse
   obtain ⟨r, e3⟩ := main
   refine ⟨p, f, r, ?_, lf⟩
   simp only [spec_DrawMultiplicityOf.f]
   refine Ev.bind hs ?_
   refine Ev.bind e ?_
   simp only [e2, Option.bind_some]
   refine Ev.bind hpr ?_
   simp only [hp, if_true]
   refine Ev.bind (spec_poly p f (by omega)) ?_
   simp only [hb2, if_true]
   exact e3
end Go.Proofs.Ythiignohbooelaa.H
