/- Plain laws that the claim of FnExactInterpolatePoly reaches: numbers modulo a prime, lists, and what the printed functions answer. -/
import Derived.RowKit
import Derived.Test.YtnigpjcnffgfgaaYWWords
import Derived.Test.YtnigpjcnffgfgaaYWMore
import Derived.Test.YtnigpjcnffgfgaaMab1
import Derived.Test.YtnigpjcnffgfgaaMab2
import Derived.Test.YtnigpjcnffgfgaaMa1
import Derived.Test.YtnigpjcnffgfgaaMa3
import Derived.Test.YtnigpjcnffgfgaaMa2
import Derived.Test.YtnigpjcnffgfgaaMab3
import Derived.Test.YtnigpjcnffgfgaaMa5
import Derived.Test.YtnigpjcnffgfgaaMa6
import Derived.Test.YtnigpjcnffgfgaaMa8
import Derived.Test.YtnigpjcnffgfgaaMa9
import Derived.Test.YtnigpjcnffgfgaaMa7
import Derived.Test.YtnigpjcnffgfgaaMa4
set_option linter.unusedVariables false
set_option linter.unusedSimpArgs false
namespace Go.Proofs.Ytnigpjcnffgfgaa.Num
open Go.RowKit
theorem w64 {x : Int} (h1 : -9223372036854775808 ≤ x) (h2 : x ≤ 9223372036854775807) : wrap64 x = x := by
 unfold wrap64; omega
theorem tmod_nn {a b : Int} (h : 0 ≤ a) : Int.tmod a b = a % b := Int.tmod_eq_emod_of_nonneg h
theorem tmod_lt' {x p : Int} (hp : 0 < p) : Int.tmod x p < p ∧ -p < Int.tmod x p := by
 constructor
 ·
  exact Int.tmod_lt_of_pos x hp
 ·
  have h := Int.tmod_lt_of_pos (-x) hp
  rw [Int.neg_tmod] at h
  omega
theorem md {x p : Int} (hp : 0 < p) (hp2 : p ≤ 1000000000) : Int.tmod (wrap64 (Int.tmod x p + p)) p = x % p := by
 obtain ⟨h1, h2⟩ := tmod_lt' (x := x) hp
 rw [w64 (by omega) (by omega), tmod_nn (by omega), Int.tmod_def]
 have : x - p * x.tdiv p + p = x + p * (1 - x.tdiv p) := by
  rw [Int.mul_sub]; omega
 rw [this, Int.add_mul_emod_self_left]
theorem emod_bd {x p : Int} (hp : 0 < p) : 0 ≤ x % p ∧ x % p < p := ⟨Int.emod_nonneg _ (by omega), Int.emod_lt_of_pos _ hp⟩
theorem mul_bd {x y a b : Int} (hx0 : 0 ≤ x) (hx : x ≤ a) (hy0 : 0 ≤ y) (hy : y ≤ b) : 0 ≤ x * y ∧ x * y ≤ a * b :=
 ⟨Int.mul_nonneg hx0 hy0, Int.mul_le_mul hx hy hy0 (by omega)⟩
theorem em_l (a b p : Int) : a % p * b % p = a * b % p := by rw [Int.mul_emod, Int.emod_emod, ← Int.mul_emod]
def Pr (p : Nat) : Prop := 2 ≤ p ∧ ∀ d, d ∣ p → d = 1 ∨ d = p
theorem Pr.of_trial {p : Nat} (h2 : 2 ≤ p) (h : ∀ d, 2 ≤ d → d * d ≤ p → p % d ≠ 0) : Pr p := by
 refine ⟨h2, fun d hd => ?_⟩
 obtain ⟨e, he⟩ := hd
 have hd0 : 0 < d := by rcases Nat.eq_zero_or_pos d with h0 | h0; (subst h0; simp at he; omega); exact h0
 have he0 : 0 < e := by rcases Nat.eq_zero_or_pos e with h0 | h0; (subst h0; simp at he; omega); exact h0
 rcases Nat.lt_or_ge d 2 with h1 | h1
 ·
  left; omega
 rcases Nat.lt_or_ge e 2 with h3 | h3
 ·
  right
  have : e = 1 := by omega
  subst this; simpa using he.symm
 ·
  exfalso
  rcases Nat.le_total d e with hle | hle
  ·
   refine h d h1 ?_ ?_
   ·
    rw [he]; exact Nat.mul_le_mul_left d hle
   ·
    rw [he]; exact Nat.mul_mod_right d e
  ·
   refine h e h3 ?_ ?_
   ·
    rw [he]; exact Nat.mul_le_mul_right e hle
   ·
    rw [he]; exact Nat.mul_mod_left d e
theorem pow_emod (p x : Int) (n : Nat) : (x % p) ^ n % p = x ^ n % p := by
 induction n with
 | zero => simp
 | succ n ih => rw [Int.pow_succ, Int.pow_succ, Int.mul_emod, ih, Int.emod_emod_of_dvd _ (Int.dvd_refl p), ← Int.mul_emod]
theorem pw_step {p : Int} (out x : Int) (n : Nat) : out * (x * x % p) ^ n % p = out * x ^ (2 * n) % p := by
 rw [Int.mul_emod, pow_emod, ← Int.mul_emod, Int.pow_mul, show x ^ 2 = x * x by rw [Int.pow_succ, Int.pow_succ, Int.pow_zero, Int.one_mul]]
theorem pow_loop (l : Nat → Int → Int → Int → Int → Option Int) (fin : Int → Int → Option Int) (m : Int → Int) (p : Int) (hp : 2 ≤ p) (hp2 : p ≤ 1000000) (hm : ∀ y, 0 ≤ y → m y = y % p)
  (hl : ∀ k e out x, l (k + 1) p e out x = if e > 0 then (if Int.tmod e 2 = 1 then l k p (wrap64 (Int.tdiv e 2)) (m (wrap64 (out * x))) (m (wrap64 (x * x))) else l k p (wrap64 (Int.tdiv e 2)) out (m (wrap64 (x * x)))) else fin p out)
  (d : Nat) : ∀ (k : Nat) (e out x : Int), e < d → d < k → 0 ≤ e → e ≤ 1000000000 → 0 ≤ out → out < p → 0 ≤ x → x < p → l k p e out x = fin p (out * x ^ e.toNat % p) := by
 induction d with
 | zero => intro k e out x h; omega
 | succ d ih =>
  intro k e out x he hk h0 h9 o0 o1 x0 x1
  obtain ⟨k, rfl⟩ : ∃ m, k = m + 1 := ⟨k - 1, by omega⟩
  rw [hl]
  by_cases h : e > 0
  ·
   rw [if_pos h]
   have hb1 := mul_bd (a := 1000000) (b := 1000000) o0 (by omega) x0 (by omega)
   have hb2 := mul_bd (a := 1000000) (b := 1000000) x0 (by omega) x0 (by omega)
   have e1 : Int.tdiv e 2 = e / 2 := Int.tdiv_eq_ediv_of_nonneg h0
   have e2 : Int.tmod e 2 = e % 2 := tmod_nn h0
   have ew : wrap64 (e / 2) = e / 2 := w64 (by omega) (by omega)
   rw [e1, e2, ew, w64 (x := out * x) (by omega) (by omega), w64 (x := x * x) (by omega) (by omega), hm _ hb1.1, hm _ hb2.1]
   have b2 := emod_bd (x := x * x) (p := p) (by omega)
   have b1 := emod_bd (x := out * x) (p := p) (by omega)
   by_cases h1 : e % 2 = 1
   ·
    rw [if_pos h1, ih k (e / 2) (out * x % p) (x * x % p) (by omega) (by omega) (by omega) (by omega) b1.1 b1.2 b2.1 b2.2, pw_step]
    have hn : e.toNat = 2 * (e / 2).toNat + 1 := by omega
    rw [hn, Int.pow_succ, em_l]
    have : out * x * x ^ (2 * (e / 2).toNat) = out * (x ^ (2 * (e / 2).toNat) * x) := by
     rw [Int.mul_assoc, Int.mul_comm x]
    rw [this]
   ·
    rw [if_neg h1, ih k (e / 2) out (x * x % p) (by omega) (by omega) (by omega) (by omega) o0 o1 b2.1 b2.2, pw_step]
    have hn : e.toNat = 2 * (e / 2).toNat := by omega
    rw [hn]
  ·
   rw [if_neg h]
   have hz : e.toNat = 0 := by omega
   rw [hz, Int.pow_zero, Int.mul_one, Int.emod_eq_of_lt o0 o1]
def IsP (p : Int) : Prop := 2 ≤ p ∧ p ≤ 10007 ∧ Pr p.toNat
open Classical in
noncomputable def primeB (p : Int) : Bool := decide (IsP p)
theorem primeB_iff {p : Int} : primeB p = true ↔ IsP p := by
 unfold primeB; exact @decide_eq_true_iff _ (Classical.propDecidable _)
theorem prime_loop (l : Nat → Int → Int → Option Bool) (p : Int) (hp : 2 ≤ p) (hp2 : p ≤ 10007)
  (hl : ∀ k i, l (k + 1) p i = if wrap64 (i * i) ≤ p then (if i = 0 then none else (if Int.tmod p i = 0 then some false else l k p (wrap64 (i + 1)))) else some true)
  (d : Nat) : ∀ (k : Nat) (i : Int), 2 ≤ i → i ≤ 101 → 101 - i < d → d < k →
   ∃ b, l k p i = some b ∧ (b = true ↔ ∀ j : Int, i ≤ j → j * j ≤ p → p % j ≠ 0) := by
 induction d with
 | zero => intro k i h1 h2 h3; omega
 | succ d ih =>
  intro k i h1 h2 h3 hk
  obtain ⟨k, rfl⟩ : ∃ m, k = m + 1 := ⟨k - 1, by omega⟩
  rw [hl]
  have hb := mul_bd (a := 101) (b := 101) (x := i) (y := i) (by omega) h2 (by omega) h2
  rw [w64 (by omega) (by omega), w64 (x := i + 1) (by omega) (by omega)]
  by_cases hle : i * i ≤ p
  ·
   have hi : i ≤ 100 := by
    rcases Int.lt_or_le 100 i with h | h
    ·
     have := Int.mul_le_mul (a := 101) (b := 101) (c := i) (d := i) (by omega) (by omega) (by omega) (by omega); omega
    ·
     exact h
   rw [if_pos hle, if_neg (by omega), tmod_nn (by omega)]
   by_cases hd : p % i = 0
   ·
    rw [if_pos hd]
    exact ⟨false, rfl, by simp; exact ⟨i, Int.le_refl _, hle, hd⟩⟩
   ·
    rw [if_neg hd]
    obtain ⟨b, hb1, hb2⟩ := ih k (i + 1) (by omega) (by omega) (by omega) (by omega)
    refine ⟨b, hb1, hb2.trans ⟨fun h j hj hjj => ?_, fun h j hj hjj => h j (by omega) hjj⟩⟩
    by_cases e : j = i
    ·
     subst e; exact hd
    ·
     exact h j (by omega) hjj
  ·
   rw [if_neg hle]
   refine ⟨true, rfl, by simp; intro j hj hjj; exfalso; apply hle; exact Int.le_trans (Int.mul_le_mul hj hj (by omega) (by omega)) hjj⟩
theorem trial_iff {p : Int} (hp : 2 ≤ p) : (∀ j : Int, 2 ≤ j → j * j ≤ p → p % j ≠ 0) ↔ Pr p.toNat := by
 constructor
 ·
  intro h
  refine Pr.of_trial (by omega) fun d hd hdd h0 => ?_
  refine h d (by omega) ?_ ?_
  ·
   have : ((d * d : Nat) : Int) ≤ p := by omega
   simpa using this
  ·
   have : ((p.toNat % d : Nat) : Int) = 0 := by rw [h0]; rfl
   rw [Int.natCast_emod, Int.toNat_of_nonneg (by omega)] at this
   exact this
 ·
  intro h j hj hjj h0
  obtain ⟨d, rfl⟩ : ∃ d : Nat, j = d := ⟨j.toNat, by omega⟩
  obtain ⟨n, rfl⟩ : ∃ n : Nat, p = n := ⟨p.toNat, by omega⟩
  simp only [Int.toNat_natCast] at h
  have hdv : d ∣ n := by
   apply Nat.dvd_of_mod_eq_zero
   have : ((n % d : Nat) : Int) = 0 := by rw [Int.natCast_emod]; exact h0
   omega
  have hn : d * d ≤ n := by
   have : ((d * d : Nat) : Int) ≤ n := by simpa using hjj
   omega
  rcases h.2 d hdv with e | e
  ·
   omega
  ·
   subst e
   have : d * 2 ≤ d * d := Nat.mul_le_mul_left d (by omega)
   omega
theorem primeB_loop {p : Int} {b : Bool} (h1 : 2 ≤ p) (h2 : p ≤ 10007) (h : b = true ↔ ∀ j : Int, 2 ≤ j → j * j ≤ p → p % j ≠ 0) : b = primeB p := by
 rw [Bool.eq_iff_iff, primeB_iff, h, trial_iff h1]
 exact ⟨fun h => ⟨h1, h2, h⟩, fun h => h.2.2⟩
theorem primeB_lo {p : Int} (h : ¬ 2 ≤ p) : primeB p = false := by
 rw [Bool.eq_false_iff]; intro e; exact h (primeB_iff.1 e).1
theorem primeB_hi {p : Int} (h : ¬ p ≤ 10007) : primeB p = false := by
 rw [Bool.eq_false_iff]; intro e; exact h (primeB_iff.1 e).2.1
end Go.Proofs.Ytnigpjcnffgfgaa.Num
namespace Go.Proofs.Ytnigpjcnffgfgaa.H
open Go.RowKit Go.Proofs.YtnigpjcnffgfgaaW.PrintWords Go.Proofs.YtnigpjcnffgfgaaW.PrintLast Go.Proofs.YtnigpjcnffgfgaaW.PrintMore Go.Proofs.Ytnigpjcnffgfgaa.Num
theorem Ev.succ {α : Type} {g : Nat → Option α} {r : α} (h : Ev (fun k => g (k + 1)) r) : Ev g r := by
 obtain ⟨K, h⟩ := h
 refine ⟨K + 1, fun k hk => ?_⟩
 obtain ⟨m, rfl⟩ : ∃ m, k = m + 1 := ⟨k - 1, by omega⟩
 exact h m (by omega)
theorem wp1 {i : Nat} (h : i ≤ 1000000000000) : wrap64 ((i : Int) + 1) = ((i + 1 : Nat) : Int) := by rw [w64 (by omega) (by omega)]; omega
theorem wm1 {i : Nat} (h : i ≤ 1000000000000) : wrap64 ((i : Int) - 1) = (i : Int) - 1 := w64 (by omega) (by omega)
theorem ws1 {i : Nat} : ((i + 1 : Nat) : Int) - 1 = (i : Int) := by omega
theorem rd_n (l : List Int) (i : Nat) : rd l (i : Int) = l.getD i 0 := by simp [rd]
theorem rd_nat (l : List Int) (i : Nat) : rd l (i : Int) = l.getD i 0 := by simp [rd]
theorem rd_lt (l : List Int) (i : Nat) (h : i < l.length) : rd l (i : Int) = l[i] := by simp [rd, h]
theorem wn {i : Nat} (h : i ≤ 1000000000000) : wrap64 ((i : Int) + 1) = ((i + 1 : Nat) : Int) := by rw [w64 (by omega) (by omega)]; omega
theorem toI_loop (l : List Int) (hl : l.length ≤ 1000000000) (d : Nat) : ∀ (k i : Nat) (acc : List Int), i + d = l.length → acc.length = l.length → acc.take i = l.take i → d < k → laws_toInt64S.l0 k l acc (i : Int) = some l := by
 induction d with
 | zero =>
  intro k i acc h1 h2 h3 hk
  obtain ⟨k, rfl⟩ : ∃ m, k = m + 1 := ⟨k - 1, by omega⟩
  simp only [laws_toInt64S.l0]
  rw [if_neg (by omega)]
  have : acc = l := by
   have e1 : acc.take i = acc := List.take_of_length_le (by omega)
   have e2 : l.take i = l := List.take_of_length_le (by omega)
   rw [e1, e2] at h3; exact h3
  rw [this]
 | succ d ih =>
  intro k i acc h1 h2 h3 hk
  obtain ⟨k, rfl⟩ : ∃ m, k = m + 1 := ⟨k - 1, by omega⟩
  simp only [laws_toInt64S.l0]
  rw [if_pos (by omega), if_pos (by omega), if_pos (by omega), wn (by omega), rd_lt l i (by omega), Int.toNat_natCast]
  refine ih k (i + 1) _ (by omega) (by simpa using h2) ?_ (by omega)
  rw [List.take_succ_eq_append_getElem (by simp; omega), List.take_succ_eq_append_getElem (by omega), List.getElem_set_self, List.take_set_of_le (Nat.le_refl i), h3]
theorem toI_same (l : List Int) (hl : l.length ≤ 1048576) : ∃ K, ∀ k, K ≤ k → laws_toInt64S.f k l = some l := by
 refine ⟨l.length + 2, fun k hk => ?_⟩
 unfold laws_toInt64S.f
 rw [if_pos (by omega), if_pos (by omega)]
 exact toI_loop l (by omega) l.length k 0 _ (by omega) (by simp) (by simp) (by omega)
theorem eqI_loop (l : List Int) (hl : l.length ≤ 1000000000) (d : Nat) : ∀ (k i : Nat), i + d = l.length → d < k → laws_eqInt64S.l0 k l l (i : Int) = some true := by
 induction d with
 | zero =>
  intro k i h1 hk
  obtain ⟨k, rfl⟩ : ∃ m, k = m + 1 := ⟨k - 1, by omega⟩
  simp only [laws_eqInt64S.l0]
  rw [if_neg (by omega)]
 | succ d ih =>
  intro k i h1 hk
  obtain ⟨k, rfl⟩ : ∃ m, k = m + 1 := ⟨k - 1, by omega⟩
  simp only [laws_eqInt64S.l0]
  rw [if_pos (by omega), if_pos (by omega), if_pos (by omega), if_pos trivial, wn (by omega)]
  exact ih k (i + 1) (by omega) (by omega)
theorem eqI_same (l : List Int) (hl : l.length ≤ 2000000) : ∃ K, ∀ k, K ≤ k → laws_eqInt64S.f k l l = some true := by
 refine ⟨l.length + 2, fun k hk => ?_⟩
 unfold laws_eqInt64S.f
 rw [if_pos rfl]
 exact eqI_loop l (by omega) l.length k 0 (by omega) (by omega)
def up (n : Int) : Nat → List Int
 | 0 => []
 | d + 1 => n :: up (n + 1) d
theorem up_len : ∀ (d : Nat) (n : Int), (up n d).length = d
 | 0, _ => rfl
 | d + 1, n => by simp [up, up_len d]
theorem mark_loop (d : Nat) : ∀ (k i : Nat) (l : List Int) (n : Int), i + d = l.length → l.length ≤ 1000000000 → 0 ≤ n → n + d ≤ 1000000000000 → d < k → laws_markInt64S.l0 k l n (i : Int) = some (n + d, l.take i ++ up n d) := by
 induction d with
 | zero =>
  intro k i l n h1 h2 h3 h4 hk
  obtain ⟨k, rfl⟩ : ∃ m, k = m + 1 := ⟨k - 1, by omega⟩
  simp only [laws_markInt64S.l0]
  rw [if_neg (by omega), List.take_of_length_le (by omega)]
  simp [up]
 | succ d ih =>
  intro k i l n h1 h2 h3 h4 hk
  obtain ⟨k, rfl⟩ : ∃ m, k = m + 1 := ⟨k - 1, by omega⟩
  simp only [laws_markInt64S.l0]
  have hw : wrap64 (n + 1) = n + 1 := w64 (by omega) (by omega)
  rw [if_pos (by omega), if_pos (by omega), wn (by omega), Int.toNat_natCast, hw]
  rw [ih k (i + 1) _ (n + 1) (by simp; omega) (by simpa using h2) (by omega) (by omega) (by omega)]
  rw [List.take_succ_eq_append_getElem (by simp; omega), List.getElem_set_self, List.take_set_of_le (Nat.le_refl i)]
  simp only [up, List.append_assoc, List.cons_append, List.nil_append]
  congr 2
  omega
theorem mark_up (l : List Int) (hl : l.length ≤ 2000000) (n : Int) (h0 : 0 ≤ n) (h1 : n ≤ 100000000) : ∃ K, ∀ k, K ≤ k → laws_markInt64S.f k l n = some (n + l.length, up n l.length) := by
 refine ⟨l.length + 2, fun k hk => ?_⟩
 unfold laws_markInt64S.f
 have := mark_loop l.length k 0 l n (by omega) (by omega) h0 (by omega) (by omega)
 simpa using this
theorem up_get : ∀ (d i : Nat) (n : Int) (h : i < d), (up n d)[i]'(by rw [up_len]; exact h) = n + i
 | d + 1, 0, n, _ => by simp [up]
 | d + 1, i + 1, n, h => by simp only [up, List.getElem_cons_succ]; rw [up_get d i (n + 1) (by omega)]; omega
theorem held_loop (m : Nat) (n0 : Int) (hm : m ≤ 1000000000) (h0 : 0 ≤ n0) (hb : n0 ≤ 1000000000) (d : Nat) : ∀ (k i : Nat), i + d = m → d < k → laws_heldInt64S.l0 k (up n0 m) (n0 + i) (i : Int) = some (n0 + m) := by
 induction d with
 | zero =>
  intro k i h1 hk
  obtain ⟨k, rfl⟩ : ∃ m, k = m + 1 := ⟨k - 1, by omega⟩
  simp only [laws_heldInt64S.l0]
  rw [if_neg (by rw [up_len]; omega)]
  congr 2; omega
 | succ d ih =>
  intro k i h1 hk
  obtain ⟨k, rfl⟩ : ∃ m, k = m + 1 := ⟨k - 1, by omega⟩
  simp only [laws_heldInt64S.l0]
  have hw : wrap64 (n0 + i + 1) = n0 + ((i + 1 : Nat) : Int) := by rw [w64 (by omega) (by omega)]; omega
  rw [if_pos (by rw [up_len]; omega), if_pos (by omega), rd_lt _ _ (by rw [up_len]; omega), up_get _ _ _ (by omega), if_pos rfl, wn (by omega), hw]
  exact ih k (i + 1) (by omega) (by omega)
theorem held_up (m : Nat) (hm : m ≤ 2000000) (n : Int) (h0 : 0 ≤ n) (h1 : n ≤ 100000000) : ∃ K, ∀ k, K ≤ k → laws_heldInt64S.f k (up n m) n = some (n + m) := by
 refine ⟨m + 2, fun k hk => ?_⟩
 unfold laws_heldInt64S.f
 have := held_loop m n (by omega) h0 (by omega) m k 0 (by omega) (by omega)
 simpa using this
end Go.Proofs.Ytnigpjcnffgfgaa.H
namespace Go.Proofs.Ytnigpjcnffgfgaa.Num
open Go.RowKit
def cg (p a b : Int) : Prop := p ∣ a - b
theorem cg.symm {p a b : Int} : cg p a b → cg p b a := fun ⟨k, h⟩ => ⟨-k, by rw [Int.mul_neg, ← h]; omega⟩
theorem cg.trans {p a b c : Int} : cg p a b → cg p b c → cg p a c := fun ⟨k, h⟩ ⟨m, h'⟩ => ⟨k + m, by rw [Int.mul_add, ← h, ← h']; omega⟩
end Go.Proofs.Ytnigpjcnffgfgaa.Num
namespace Go.Proofs.Ytnigpjcnffgfgaa.H
open Go.RowKit Go.Proofs.YtnigpjcnffgfgaaW.PrintWords Go.Proofs.YtnigpjcnffgfgaaW.PrintLast Go.Proofs.YtnigpjcnffgfgaaW.PrintMore Go.Proofs.Ytnigpjcnffgfgaa.Num
theorem spec_prime (p : Int) : Ev (fun k => spec_l01Prime.f k p) (primeB p) := by
 refine ⟨200, fun k hk => ?_⟩
 unfold spec_l01Prime.f spec_l01In.f
 by_cases h1 : p ≥ 2
 ·
  by_cases h2 : p ≤ 10007
  ·
   obtain ⟨b, hb, hiff⟩ := prime_loop spec_l01Prime.l0 p h1 h2 (fun k i => rfl) 102 k 2 (by omega) (by omega) (by omega) (by omega)
   simp only [if_pos h1, Option.bind_some, decide_eq_true h2, if_true, hb, primeB_loop h1 h2 hiff]
  ·
   simp [if_pos h1, decide_eq_false h2, primeB_hi h2]
 ·
  simp [if_neg h1, primeB_lo h1]
theorem impl_prime (p : Int) : Ev (fun k => impl_IsPrime.f k p) (primeB p) := by
 refine ⟨200, fun k hk => ?_⟩
 unfold impl_IsPrime.f impl_within.f
 by_cases h1 : 2 ≤ p
 ·
  by_cases h2 : p ≤ 10007
  ·
   obtain ⟨b, hb, hiff⟩ := prime_loop impl_IsPrime.l0 p h1 h2 (fun k i => rfl) 102 k 2 (by omega) (by omega) (by omega) (by omega)
   simp only [if_pos h1, Option.bind_some, decide_eq_true h2, if_true, hb, primeB_loop h1 h2 hiff]
  ·
   simp [if_pos h1, decide_eq_false h2, primeB_hi h2]
 ·
  simp [if_neg h1, primeB_lo h1]
theorem spec_mod {p x : Int} (hp : 0 < p) (hp2 : p ≤ 1000000000) : spec_l01Mod.f p x = some (x % p) := by
 unfold spec_l01Mod.f; rw [if_neg (by omega), md hp hp2]
theorem impl_mod {p x : Int} (hp : 0 < p) (hp2 : p ≤ 1000000000) : impl_field_mod.f p x = some (x % p) := by
 unfold impl_field_mod.f; rw [if_neg (by omega), md hp hp2]
theorem impl_mul {p x y : Int} (hp : 0 < p) (hp2 : p ≤ 1000000000) (h1 : -9223372036854775808 ≤ x * y) (h2 : x * y ≤ 9223372036854775807) : impl_field_mul.f p x y = some (x * y % p) := by
 unfold impl_field_mul.f; rw [impl_mod hp hp2, w64 h1 h2]; rfl
theorem spec_power {p x e : Int} (hp : 2 ≤ p) (hp2 : p ≤ 10007) (e0 : 0 ≤ e) (e1 : e ≤ 1000000000) : Ev (fun k => spec_l01Power.f k p x e) (x ^ e.toNat % p) := by
 refine ⟨e.toNat + 2, fun k hk => ?_⟩
 have hb := emod_bd (x := x) (p := p) (by omega)
 simp only [spec_l01Power.f, spec_mod (show 0 < p by omega) (show p ≤ 1000000000 by omega), Option.bind_some]
 rw [pow_loop spec_l01Power.l0 (fun p out => some (Int.tmod out p)) (fun y => Int.tmod y p) p hp (by omega) (fun y hy => tmod_nn hy) (fun k e out x => by
   simp only [spec_l01Power.l0, if_neg (show ¬ p = 0 by omega)]) (e.toNat + 1) k e 1 (x % p) (by omega) (by omega) e0 e1 (by omega) (by omega) hb.1 hb.2]
 rw [Int.one_mul, pow_emod, tmod_nn (emod_bd (by omega)).1, Int.emod_emod]
theorem impl_power {p x e : Int} (hp : 2 ≤ p) (hp2 : p ≤ 10007) (x0 : 0 ≤ x) (x1 : x < p) (e0 : 0 ≤ e) (e1 : e ≤ 1000000000) : Ev (fun k => impl_field_power.f k p x e) (x ^ e.toNat % p) := by
 refine ⟨e.toNat + 2, fun k hk => ?_⟩
 simp only [impl_field_power.f, impl_mod (show 0 < p by omega) (show p ≤ 1000000000 by omega), Option.bind_some]
 rw [Int.emod_eq_of_lt (a := 1) (by omega) (by omega)]
 rw [pow_loop (fun k p e out x => impl_field_power.l0 k p x e out) (fun p out => some out) (fun y => y % p) p hp (by omega) (fun y hy => rfl) (fun k e out x => by
   simp only [impl_field_power.l0, impl_field_mul.f, impl_mod (show 0 < p by omega) (show p ≤ 1000000000 by omega), Option.bind_some]) (e.toNat + 1) k e 1 x (by omega) (by omega) e0 e1 (by omega) (by omega) x0 x1]
 rw [Int.one_mul]
theorem spec_inverse {p x : Int} (hp : 2 ≤ p) (hp2 : p ≤ 10007) : Ev (fun k => spec_l01Inverse.f k p x) (x ^ (p - 2).toNat % p) := by
 obtain ⟨K, h⟩ := spec_power (x := x) (e := p - 2) hp hp2 (by omega) (by omega)
 refine ⟨K, fun k hk => ?_⟩
 have hw : wrap64 (p - 2) = p - 2 := w64 (by omega) (by omega)
 have e := h k hk
 simp only at e
 simp only [spec_l01Inverse.f, hw, e, Option.bind_some]
theorem impl_inverse {p x : Int} (hp : 2 ≤ p) (hp2 : p ≤ 10007) (x0 : 0 ≤ x) (x1 : x < p) : Ev (fun k => impl_field_inverse.f k p x) (x ^ (p - 2).toNat % p) := by
 obtain ⟨K, h⟩ := impl_power (x := x) (e := p - 2) hp hp2 x0 x1 (by omega) (by omega)
 refine ⟨K, fun k hk => ?_⟩
 have hw : wrap64 (p - 2) = p - 2 := w64 (by omega) (by omega)
 have e := h k hk
 simp only at e
 simp only [impl_field_inverse.f, hw, e, Option.bind_some]
theorem hasB_iff {p x : Int} : hasB p x = true ↔ 0 ≤ x ∧ x < p := by unfold hasB; simp
structure Po (p : Int) (l : List Int) : Prop where
 len : l.length ≤ 25
 el : ∀ x ∈ l, 0 ≤ x ∧ x < p
 last : l.length = 0 ∨ rd l ((l.length : Int) - 1) ≠ 0
def tlen (l : List Int) : Nat → Nat
 | 0 => 0
 | n + 1 => if l.getD n 0 = 0 then tlen l n else n + 1
def trimL (l : List Int) : List Int := l.take (tlen l l.length)
theorem tlen_le (l : List Int) : ∀ n, tlen l n ≤ n
 | 0 => Nat.le_refl _
 | n + 1 => by unfold tlen; split; (have := tlen_le l n; omega); omega
theorem tlen_take (l : List Int) (m : Nat) : ∀ n, n ≤ m → tlen (l.take m) n = tlen l n
 | 0, _ => rfl
 | n + 1, h => by
  have e : (l.take m).getD n 0 = l.getD n 0 := by simp [List.getD_eq_getElem?_getD, show n < m by omega]
  unfold tlen
  rw [e, tlen_take l m n (by omega)]
theorem own_some (l : List Int) (h : l.length < 17592186044416) : spec_l01Own.f l = some l := by
 simp [spec_l01Own.f, h]
theorem specTrim_loop (l : List Int) (hl : l.length ≤ 1000000000) : ∀ (n k : Nat), n ≤ l.length → n < k → spec_l01Trim.l0 k l (n : Int) = some (l.take (tlen l n))
 | 0, k, h, hk => by
  obtain ⟨k, rfl⟩ : ∃ m, k = m + 1 := ⟨k - 1, by omega⟩
  simp only [spec_l01Trim.l0]
  rw [if_neg (by omega), if_pos (by omega), if_pos (by omega), own_some _ (by rw [List.length_take]; omega)]
  simp [tlen]
 | n + 1, k, h, hk => by
  obtain ⟨k, rfl⟩ : ∃ m, k = m + 1 := ⟨k - 1, by omega⟩
  simp only [spec_l01Trim.l0]
  have hw : wrap64 (((n + 1 : Nat) : Int) - 1) = (n : Int) := by rw [w64 (by omega) (by omega)]; omega
  rw [if_pos (by omega), hw, if_pos (by omega), if_pos (by omega), rd_nat]
  by_cases h0 : l.getD n 0 = 0
  ·
   rw [if_pos h0, specTrim_loop l hl n k (by omega) (by omega)]
   simp only [tlen, if_pos h0]
  ·
   rw [if_neg h0, if_pos (by omega), if_pos (by omega), own_some _ (by rw [List.length_take]; omega), Int.toNat_natCast]
   simp only [tlen, if_neg h0, Option.bind_some]
theorem spec_trim (l : List Int) (hl : l.length ≤ 1000000000) : Ev (fun k => spec_l01Trim.f k l) (trimL l) :=
 ⟨l.length + 2, fun k hk => specTrim_loop l hl l.length k (Nat.le_refl _) (by omega)⟩
theorem implTrim_loop : ∀ (n k : Nat) (l : List Int), l.length = n → n ≤ 1000000000 → n < k → impl_trimmed.l0 k l = some (trimL l)
 | 0, k, l, h, hl, hk => by
  obtain ⟨k, rfl⟩ : ∃ m, k = m + 1 := ⟨k - 1, by omega⟩
  simp only [impl_trimmed.l0]
  rw [if_neg (by omega)]
  simp [trimL, h, List.eq_nil_of_length_eq_zero h]
 | n + 1, k, l, h, hl, hk => by
  obtain ⟨k, rfl⟩ : ∃ m, k = m + 1 := ⟨k - 1, by omega⟩
  simp only [impl_trimmed.l0]
  have hw : wrap64 ((l.length : Int) - 1) = (n : Int) := by rw [w64 (by omega) (by omega)]; omega
  rw [if_pos (by omega), hw, if_pos (by omega), if_pos (by omega), rd_nat, Int.toNat_natCast]
  by_cases h0 : l.getD n 0 = 0
  ·
   rw [if_pos h0, if_pos (by omega), implTrim_loop n k (l.take n) (by simp; omega) (by omega) (by omega)]
   simp only [trimL, h, tlen, if_pos h0]
   rw [show (l.take n).length = n by simp [h], tlen_take l n n (Nat.le_refl _), List.take_take]
   congr 2
   have := tlen_le l n
   omega
  ·
   rw [if_neg h0]
   simp only [trimL, h, tlen, if_neg h0]
   rw [List.take_of_length_le (by omega)]
theorem impl_trim (l : List Int) (hl : l.length ≤ 1000000000) : Ev (fun k => impl_trimmed.f k l) (trimL l) :=
 ⟨l.length + 2, fun k hk => implTrim_loop l.length k l rfl hl (by omega)⟩
theorem trimL_len (l : List Int) : (trimL l).length ≤ l.length := by unfold trimL; rw [List.length_take]; omega
def InR (p : Int) (l : List Int) : Prop := ∀ x ∈ l, 0 ≤ x ∧ x < p
theorem InR.get {p : Int} {l : List Int} (h : InR p l) (hp : 0 < p) (i : Nat) : 0 ≤ l.getD i 0 ∧ l.getD i 0 < p := by
 rcases Nat.lt_or_ge i l.length with hi | hi
 ·
  rw [List.getD_eq_getElem?_getD, List.getElem?_eq_getElem hi]; exact h _ (List.getElem_mem hi)
 ·
  rw [List.getD_eq_getElem?_getD, List.getElem?_eq_none hi]; exact ⟨Int.le_refl _, hp⟩
theorem InR.set {p : Int} {l : List Int} (h : InR p l) (i : Nat) {x : Int} (hx : 0 ≤ x ∧ x < p) : InR p (l.set i x) := by
 intro y hy
 rcases List.mem_or_eq_of_mem_set hy with h' | h'
 ·
  exact h y h'
 ·
  rw [h']; exact hx
theorem InR.take {p : Int} {l : List Int} (h : InR p l) (n : Nat) : InR p (l.take n) := fun x hx => h x (List.mem_of_mem_take hx)
theorem InR.trim {p : Int} {l : List Int} (h : InR p l) : InR p (trimL l) := h.take _
theorem InR.zeros {p : Int} (hp : 0 < p) (n : Nat) : InR p (List.replicate n 0) := fun x hx => by
 have := (List.mem_replicate.1 hx).2; subst this; exact ⟨Int.le_refl _, hp⟩
theorem InR.append {p : Int} {l l' : List Int} (h : InR p l) (h' : InR p l') : InR p (l ++ l') := fun x hx => by
 rcases List.mem_append.1 hx with hx | hx
 ·
  exact h x hx
 ·
  exact h' x hx
theorem InR.drop {p : Int} {l : List Int} (h : InR p l) (n : Nat) : InR p (l.drop n) := fun x hx => h x (List.mem_of_mem_drop hx)
theorem Po.inR {p : Int} {l : List Int} (h : Po p l) : InR p l := h.el
theorem InR.nil {p : Int} : InR p [] := fun x hx => by simp at hx
theorem InR.one {p x : Int} (h : 0 ≤ x ∧ x < p) : InR p [x] := fun y hy => by rw [List.mem_singleton.1 hy]; exact h
theorem mul_bd2 {p x y : Int} (hp : p ≤ 10007) (hx : 0 ≤ x ∧ x < p) (hy : 0 ≤ y ∧ y ≤ 100000) : 0 ≤ x * y ∧ x * y ≤ 1000700000 := by
 have := mul_bd (a := 10007) (b := 100000) hx.1 (by omega) hy.1 hy.2; omega
def ad (p c : Int) (g : List Int) : List Int → Nat → Nat → List Int
 | acc, _, 0 => acc
 | acc, i, d + 1 => ad p c g (acc.set i ((acc.getD i 0 + c * g.getD i 0) % p)) (i + 1) d
def pad (f : List Int) (n : Nat) : List Int := f ++ List.replicate (n - f.length) 0
def addL (p : Int) (f g : List Int) (c : Int) : List Int := trimL (ad p c g (pad f (max f.length g.length)) 0 g.length)
theorem ad_len (p c : Int) (g : List Int) : ∀ d i acc, (ad p c g acc i d).length = acc.length
 | 0, _, _ => rfl
 | d + 1, i, acc => by simp [ad, ad_len p c g d]
theorem ad_inR {p c : Int} (hp : 0 < p) (g : List Int) : ∀ d i acc, InR p acc → InR p (ad p c g acc i d)
 | 0, _, _, h => h
 | d + 1, i, acc, h => ad_inR hp g d (i + 1) _ (h.set i (emod_bd hp))
theorem pad_len (f : List Int) (n : Nat) (h : f.length ≤ n) : (pad f n).length = n := by simp [pad]; omega
theorem pad_inR {p : Int} (hp : 0 < p) {f : List Int} (h : InR p f) (n : Nat) : InR p (pad f n) := h.append (InR.zeros hp _)
theorem addL_len (p : Int) (f g : List Int) (c : Int) : (addL p f g c).length ≤ max f.length g.length := by
 have := trimL_len (ad p c g (pad f (max f.length g.length)) 0 g.length)
 rw [ad_len, pad_len _ _ (Nat.le_max_left _ _)] at this; exact this
theorem addL_inR {p : Int} (hp : 0 < p) {f : List Int} (h : InR p f) (g : List Int) (c : Int) : InR p (addL p f g c) := (ad_inR hp g _ _ _ (pad_inR hp h _)).trim
theorem spec_add {p c : Int} {f g : List Int} (hp : 2 ≤ p) (hp2 : p ≤ 10007) (hf : f.length ≤ 1000) (hg : g.length ≤ 1000) (rf : InR p f) (rg : InR p g) (c0 : 0 ≤ c) (c1 : c ≤ 100000) :
  Ev (fun k => spec_l01Add.f k p f g c) (addL p f g c) := by
 have loop2 : ∀ d i (acc : List Int), i + d = g.length → g.length ≤ acc.length → acc.length ≤ 1000 → InR p acc → Ev (fun k => spec_l01Add.l1 k p g c acc (i : Int)) (trimL (ad p c g acc i d)) := by
  intro d
  induction d with
  | zero =>
   intro i acc h1 h2 h3 h4
   obtain ⟨K, h⟩ := spec_trim acc (by omega)
   refine ⟨K + 1, fun k hk => ?_⟩
   obtain ⟨k, rfl⟩ : ∃ m, k = m + 1 := ⟨k - 1, by omega⟩
   have e := h k (by omega)
   simp only at e
   simp only [spec_l01Add.l1]
   rw [if_neg (by omega), e]
   simp [ad]
  | succ d ih =>
   intro i acc h1 h2 h3 h4
   obtain ⟨K, h⟩ := ih (i + 1) (acc.set i ((acc.getD i 0 + c * g.getD i 0) % p)) (by omega) (by simpa using h2) (by simpa using h3) (h4.set i (emod_bd (by omega)))
   refine ⟨K + 1, fun k hk => ?_⟩
   obtain ⟨k, rfl⟩ : ∃ m, k = m + 1 := ⟨k - 1, by omega⟩
   have e := h k (by omega)
   simp only at e
   have hb := mul_bd2 hp2 (rg.get (by omega) i) (y := c) (by omega)
   rw [Int.mul_comm] at hb
   have ha := h4.get (by omega) i
   simp only [spec_l01Add.l1]
   rw [if_pos (by omega), if_pos (by omega), if_pos (by omega), rd_nat, rd_nat, w64 (x := c * g.getD i 0) (by omega) (by omega), w64 (by omega) (by omega), spec_mod (by omega) (by omega), Option.bind_some, wn (by omega), Int.toNat_natCast, e]
   simp [ad]
 have loop1 : ∀ d i (acc : List Int), i + d = f.length → acc.length = max f.length g.length → acc.take i = f.take i → acc.drop i = List.replicate (acc.length - i) 0 →
   Ev (fun k => spec_l01Add.l0 k p f g c acc (i : Int)) (addL p f g c) := by
  intro d
  induction d with
  | zero =>
   intro i acc h1 h2 h3 h4
   have hacc : acc = pad f (max f.length g.length) := by
    have := List.take_append_drop i acc
    rw [h3, h4, List.take_of_length_le (by omega)] at this
    rw [← this, pad, h2, show i = f.length by omega]
   obtain ⟨K, h⟩ := loop2 g.length 0 acc (by omega) (by omega) (by omega) (by rw [hacc]; exact pad_inR (by omega) rf _)
   refine ⟨K + 1, fun k hk => ?_⟩
   obtain ⟨k, rfl⟩ : ∃ m, k = m + 1 := ⟨k - 1, by omega⟩
   have e := h k (by omega)
   simp only [Int.natCast_zero] at e
   simp only [spec_l01Add.l0]
   rw [if_neg (by omega), e, hacc]
   rfl
  | succ d ih =>
   intro i acc h1 h2 h3 h4
   obtain ⟨K, h⟩ := ih (i + 1) (acc.set i (f.getD i 0)) (by omega) (by simpa using h2)
    (by rw [List.take_succ_eq_append_getElem (by simp; omega), List.take_succ_eq_append_getElem (by omega), List.getElem_set_self, List.take_set_of_le (Nat.le_refl i), h3, List.getD_eq_getElem?_getD, List.getElem?_eq_getElem (by omega)]; rfl)
    (by
     rw [List.drop_set_of_lt (by omega), List.length_set]
     have e1 : acc.drop (i + 1) = (acc.drop i).drop 1 := by rw [List.drop_drop]
     rw [e1, h4, List.drop_replicate]
     congr 1)
   refine ⟨K + 1, fun k hk => ?_⟩
   obtain ⟨k, rfl⟩ : ∃ m, k = m + 1 := ⟨k - 1, by omega⟩
   have e := h k (by omega)
   simp only at e
   simp only [spec_l01Add.l0]
   rw [if_pos (by omega), if_pos (by omega), if_pos (by omega), rd_nat, wn (by omega), Int.toNat_natCast, e]
 unfold spec_l01Add.f
 by_cases hlt : (f.length : Int) < (g.length : Int)
 ·
  obtain ⟨K, h⟩ := loop1 f.length 0 (List.replicate g.length 0) (by omega) (by simp; omega) (by simp) (by simp)
  refine ⟨K, fun k hk => ?_⟩
  have e := h k hk
  simp only [Int.natCast_zero] at e
  simp only
  rw [if_pos hlt, if_pos (by omega), if_pos (by omega), Int.toNat_natCast, e]
 ·
  obtain ⟨K, h⟩ := loop1 f.length 0 (List.replicate f.length 0) (by omega) (by simp; omega) (by simp) (by simp)
  refine ⟨K, fun k hk => ?_⟩
  have e := h k hk
  simp only [Int.natCast_zero] at e
  simp only
  rw [if_neg hlt, if_pos (by omega), if_pos (by omega), Int.toNat_natCast, e]
theorem cpInto_pad (f : List Int) (n : Nat) (h : f.length ≤ n) : cpInto (List.replicate n 0) f = pad f n := by
 simp [cpInto, pad]
theorem impl_add {p c : Int} {f g : List Int} (hp : 2 ≤ p) (hp2 : p ≤ 10007) (hf : f.length ≤ 1000) (hg : g.length ≤ 1000) (rf : InR p f) (rg : InR p g) (c0 : 0 ≤ c) (c1 : c ≤ 100000) :
  Ev (fun k => impl_field_add.f k p f g c) (addL p f g c) := by
 have loop2 : ∀ d i (acc : List Int), i + d = g.length → g.length ≤ acc.length → acc.length ≤ 1000 → InR p acc → Ev (fun k => impl_field_add.l0 k p c acc g (g.length : Int) (i : Int)) (trimL (ad p c g acc i d)) := by
  intro d
  induction d with
  | zero =>
   intro i acc h1 h2 h3 h4
   obtain ⟨K, h⟩ := impl_trim acc (by omega)
   refine ⟨K + 1, fun k hk => ?_⟩
   obtain ⟨k, rfl⟩ : ∃ m, k = m + 1 := ⟨k - 1, by omega⟩
   have e := h k (by omega)
   simp only at e
   simp only [impl_field_add.l0]
   rw [if_neg (by omega), e]
   simp [ad]
  | succ d ih =>
   intro i acc h1 h2 h3 h4
   obtain ⟨K, h⟩ := ih (i + 1) (acc.set i ((acc.getD i 0 + c * g.getD i 0) % p)) (by omega) (by simpa using h2) (by simpa using h3) (h4.set i (emod_bd (by omega)))
   refine ⟨K + 1, fun k hk => ?_⟩
   obtain ⟨k, rfl⟩ : ∃ m, k = m + 1 := ⟨k - 1, by omega⟩
   have e := h k (by omega)
   simp only at e
   have hb := mul_bd2 hp2 (rg.get (by omega) i) (y := c) (by omega)
   rw [Int.mul_comm] at hb
   have ha := h4.get (by omega) i
   simp only [impl_field_add.l0]
   rw [if_pos (by omega), if_pos (by omega), if_pos (by omega), if_pos (by omega), rd_nat, rd_nat, w64 (x := c * g.getD i 0) (by omega) (by omega), w64 (by omega) (by omega), impl_mod (by omega) (by omega), Option.bind_some, wn (by omega), Int.toNat_natCast, e]
   simp [ad]
 unfold impl_field_add.f
 by_cases hlt : (f.length : Int) < (g.length : Int)
 ·
  obtain ⟨K, h⟩ := loop2 g.length 0 (pad f g.length) (by omega) (by rw [pad_len _ _ (by omega)]; omega) (by rw [pad_len _ _ (by omega)]; omega) (pad_inR (by omega) rf _)
  refine ⟨K, fun k hk => ?_⟩
  have e := h k hk
  simp only [Int.natCast_zero] at e
  simp only
  rw [if_pos hlt, if_pos (by omega), if_pos (by omega), Int.toNat_natCast, cpInto_pad _ _ (by omega), e, addL, Nat.max_eq_right (by omega)]
 ·
  obtain ⟨K, h⟩ := loop2 g.length 0 (pad f f.length) (by omega) (by rw [pad_len _ _ (by omega)]; omega) (by rw [pad_len _ _ (by omega)]; omega) (pad_inR (by omega) rf _)
  refine ⟨K, fun k hk => ?_⟩
  have e := h k hk
  simp only [Int.natCast_zero] at e
  simp only
  rw [if_neg hlt, if_pos (by omega), if_pos (by omega), Int.toNat_natCast, cpInto_pad _ _ (by omega), e, addL, Nat.max_eq_left (by omega)]
def inv (p x : Int) : Int := x ^ (p - 2).toNat % p
theorem inv_bd {p : Int} (hp : 0 < p) (x : Int) : 0 ≤ inv p x ∧ inv p x < p := emod_bd hp
def pr1 (p x : Int) (g : List Int) (i : Nat) : List Int → Nat → Nat → List Int
 | acc, _, 0 => acc
 | acc, j, d + 1 => pr1 p x g i (acc.set (i + j) ((acc.getD (i + j) 0 + x * g.getD j 0) % p)) (j + 1) d
def pr0 (p : Int) (f g : List Int) : List Int → Nat → Nat → List Int
 | acc, _, 0 => acc
 | acc, i, d + 1 => pr0 p f g (pr1 p (f.getD i 0) g i acc 0 g.length) (i + 1) d
def mulW (p : Int) (f g : List Int) : List Int := pr0 p f g (List.replicate (f.length + g.length - 1) 0) 0 f.length
def mulL (p : Int) (f g : List Int) : List Int := if f.length = 0 ∨ g.length = 0 then [] else trimL (mulW p f g)
theorem pr1_len (p x : Int) (g : List Int) (i : Nat) : ∀ d j acc, (pr1 p x g i acc j d).length = acc.length
 | 0, _, _ => rfl
 | d + 1, j, acc => by simp [pr1, pr1_len p x g i d]
theorem pr0_len (p : Int) (f g : List Int) : ∀ d i acc, (pr0 p f g acc i d).length = acc.length
 | 0, _, _ => rfl
 | d + 1, i, acc => by simp [pr0, pr0_len p f g d, pr1_len]
theorem pr1_inR {p x : Int} (hp : 0 < p) (g : List Int) (i : Nat) : ∀ d j acc, InR p acc → InR p (pr1 p x g i acc j d)
 | 0, _, _, h => h
 | d + 1, j, acc, h => pr1_inR hp g i d (j + 1) _ (h.set _ (emod_bd hp))
theorem pr0_inR {p : Int} (hp : 0 < p) (f g : List Int) : ∀ d i acc, InR p acc → InR p (pr0 p f g acc i d)
 | 0, _, _, h => h
 | d + 1, i, acc, h => pr0_inR hp f g d (i + 1) _ (pr1_inR hp g i _ _ _ h)
theorem mulW_len (p : Int) (f g : List Int) : (mulW p f g).length = f.length + g.length - 1 := by simp [mulW, pr0_len]
theorem mulW_inR {p : Int} (hp : 0 < p) (f g : List Int) : InR p (mulW p f g) := pr0_inR hp f g _ _ _ (InR.zeros hp _)
theorem mulL_inR {p : Int} (hp : 0 < p) (f g : List Int) : InR p (mulL p f g) := by
 unfold mulL; split
 ·
  exact InR.nil
 ·
  exact (mulW_inR hp f g).trim
theorem mulL_len (p : Int) (f g : List Int) : (mulL p f g).length ≤ f.length + g.length - 1 := by
 unfold mulL; split
 ·
  simp
 ·
  have := trimL_len (mulW p f g); rw [mulW_len] at this; exact this
theorem spec_step {p : Int} {f g acc : List Int} (k i j : Nat) (hp : 2 ≤ p) (hi : i < f.length) (hj : j < g.length) (hL : i + j < acc.length) (h5 : i + j ≤ 100000)
  (hb : 0 ≤ f.getD i 0 * g.getD j 0 ∧ f.getD i 0 * g.getD j 0 ≤ 1000700000) (ha : 0 ≤ acc.getD (i + j) 0 ∧ acc.getD (i + j) 0 ≤ 100000) :
  spec_l01Times.l1 (k + 1) p f g acc (i : Int) (j : Int) = spec_l01Times.l1 k p f g (acc.set (i + j) ((acc.getD (i + j) 0 + f.getD i 0 * g.getD j 0) % p)) (i : Int) ((j + 1 : Nat) : Int) := by
 have hw : wrap64 ((i : Int) + (j : Int)) = ((i + j : Nat) : Int) := by rw [w64 (by omega) (by omega)]; omega
 have q1 : (j : Int) < (g.length : Int) := by omega
 have q2 : (0 : Int) ≤ ((i + j : Nat) : Int) := by omega
 have q3 : ((i + j : Nat) : Int) < (acc.length : Int) := by omega
 have q4 : (0 : Int) ≤ (i : Int) := by omega
 have q5 : (i : Int) < (f.length : Int) := by omega
 have q6 : (0 : Int) ≤ (j : Int) := by omega
 have q7 : ¬ p = 0 := by omega
 have w1 : wrap64 (f.getD i 0 * g.getD j 0) = f.getD i 0 * g.getD j 0 := w64 (by omega) (by omega)
 have w2 : wrap64 (acc.getD (i + j) 0 + f.getD i 0 * g.getD j 0) = acc.getD (i + j) 0 + f.getD i 0 * g.getD j 0 := w64 (by omega) (by omega)
 have w3 : wrap64 ((j : Int) + 1) = ((j + 1 : Nat) : Int) := wn (by omega)
 have w4 : Int.tmod (acc.getD (i + j) 0 + f.getD i 0 * g.getD j 0) p = (acc.getD (i + j) 0 + f.getD i 0 * g.getD j 0) % p := tmod_nn (by omega)
 simp only [spec_l01Times.l1, hw]
 rw [if_pos q1, if_pos q2, if_pos q3, if_pos q4, if_pos q5, if_pos q6, if_neg q7, rd_nat, rd_nat, rd_nat, w1, w2, w3, w4, Int.toNat_natCast]
theorem impl_step {p : Int} {f g acc : List Int} (k i j : Nat) (hp : 2 ≤ p) (hp2 : p ≤ 10007) (hi : i < f.length) (hj : j < g.length) (hL : i + j < acc.length) (h5 : i + j ≤ 100000)
  (hb : 0 ≤ f.getD i 0 * g.getD j 0 ∧ f.getD i 0 * g.getD j 0 ≤ 1000700000) (ha : 0 ≤ acc.getD (i + j) 0 ∧ acc.getD (i + j) 0 ≤ 100000) (n : Int) :
  impl_field_product.l1 (k + 1) p g acc (i : Int) (f.getD i 0) f n (i : Int) g (g.length : Int) (j : Int) = impl_field_product.l1 k p g (acc.set (i + j) ((acc.getD (i + j) 0 + f.getD i 0 * g.getD j 0) % p)) (i : Int) (f.getD i 0) f n (i : Int) g (g.length : Int) ((j + 1 : Nat) : Int) := by
 have hw : wrap64 ((i : Int) + (j : Int)) = ((i + j : Nat) : Int) := by rw [w64 (by omega) (by omega)]; omega
 have q1 : (j : Int) < (g.length : Int) := by omega
 have q2 : (0 : Int) ≤ ((i + j : Nat) : Int) := by omega
 have q3 : ((i + j : Nat) : Int) < (acc.length : Int) := by omega
 have q6 : (0 : Int) ≤ (j : Int) := by omega
 have w1 : wrap64 (f.getD i 0 * g.getD j 0) = f.getD i 0 * g.getD j 0 := w64 (by omega) (by omega)
 have w2 : wrap64 (acc.getD (i + j) 0 + f.getD i 0 * g.getD j 0) = acc.getD (i + j) 0 + f.getD i 0 * g.getD j 0 := w64 (by omega) (by omega)
 have w3 : wrap64 ((j : Int) + 1) = ((j + 1 : Nat) : Int) := wn (by omega)
 have w4 : impl_field_mod.f p (acc.getD (i + j) 0 + f.getD i 0 * g.getD j 0) = some ((acc.getD (i + j) 0 + f.getD i 0 * g.getD j 0) % p) := impl_mod (by omega) (by omega)
 simp only [impl_field_product.l1, hw]
 rw [if_pos q1, if_pos q6, if_pos q1, if_pos q2, if_pos q3, rd_nat, rd_nat, w1, w2, w3, w4, Int.toNat_natCast, Option.bind_some]
set_option maxHeartbeats 2000000 in
theorem spec_product {p : Int} {f g : List Int} (hp : 2 ≤ p) (hp2 : p ≤ 10007) (hf : f.length ≤ 1000) (hg : g.length ≤ 1000) (rf : InR p f) (rg : InR p g) : Ev (fun k => spec_l01Times.f k p f g) (mulL p f g) := by
 have inner : ∀ (i : Nat) (r : List Int), i < f.length → ∀ d j (acc : List Int), j + d = g.length → acc.length = f.length + g.length - 1 → InR p acc →
   Ev (fun k => spec_l01Times.l0 k p f g (pr1 p (f.getD i 0) g i acc j d) ((i + 1 : Nat) : Int)) r → Ev (fun k => spec_l01Times.l1 k p f g acc (i : Int) (j : Int)) r := by
  intro i r hi d
  induction d with
  | zero =>
   intro j acc h1 h2 h3 ⟨K, h⟩
   refine ⟨K + 1, fun k hk => ?_⟩
   obtain ⟨k, rfl⟩ : ∃ m, k = m + 1 := ⟨k - 1, by omega⟩
   have e := h k (by omega)
   simp only [pr1] at e
   simp only [spec_l01Times.l1]
   rw [if_neg (by omega), wn (by omega), e]
  | succ d ih =>
   intro j acc h1 h2 h3 h
   obtain ⟨K, h⟩ := ih (j + 1) (acc.set (i + j) ((acc.getD (i + j) 0 + f.getD i 0 * g.getD j 0) % p)) (by omega) (by simpa using h2) (h3.set _ (emod_bd (by omega))) h
   refine ⟨K + 1, fun k hk => ?_⟩
   obtain ⟨k, rfl⟩ : ∃ m, k = m + 1 := ⟨k - 1, by omega⟩
   have e := h k (by omega)
   simp only at e
   have hb := mul_bd2 hp2 (rf.get (by omega) i) (y := g.getD j 0) (by have := rg.get (by omega) j; omega)
   have ha := h3.get (by omega) (i + j)
   exact (spec_step k i j hp hi (by omega) (by omega) (by omega) hb ⟨ha.1, by omega⟩).trans e
 have outer : ∀ d i (acc : List Int), i + d = f.length → acc.length = f.length + g.length - 1 → InR p acc → Ev (fun k => spec_l01Times.l0 k p f g acc (i : Int)) (trimL (pr0 p f g acc i d)) := by
  intro d
  induction d with
  | zero =>
   intro i acc h1 h2 h3
   obtain ⟨K, h⟩ := spec_trim acc (by omega)
   refine ⟨K + 1, fun k hk => ?_⟩
   obtain ⟨k, rfl⟩ : ∃ m, k = m + 1 := ⟨k - 1, by omega⟩
   have e := h k (by omega)
   simp only at e
   simp only [spec_l01Times.l0]
   rw [if_neg (by omega), e]
   simp [pr0]
  | succ d ih =>
   intro i acc h1 h2 h3
   have hin := inner i _ (by omega) g.length 0 acc (by omega) h2 h3 (ih (i + 1) (pr1 p (f.getD i 0) g i acc 0 g.length) (by omega) (by rw [pr1_len]; exact h2) (pr1_inR (by omega) g i _ _ _ h3))
   obtain ⟨K, h⟩ := hin
   refine ⟨K + 1, fun k hk => ?_⟩
   obtain ⟨k, rfl⟩ : ∃ m, k = m + 1 := ⟨k - 1, by omega⟩
   have e := h k (by omega)
   simp only [Int.natCast_zero] at e
   simp only [spec_l01Times.l0]
   rw [if_pos (by omega), e]
   rfl
 unfold mulL
 by_cases h0 : f.length = 0 ∨ g.length = 0
 ·
  rw [if_pos h0]
  refine ⟨1, fun k hk => ?_⟩
  obtain ⟨k, rfl⟩ : ∃ m, k = m + 1 := ⟨k - 1, by omega⟩
  simp only [spec_l01Times.f]
  by_cases hf0 : (f.length : Int) = 0
  ·
   rw [if_pos hf0]; simp only [spec_l01Times.j0, if_true]
  ·
   rw [if_neg hf0]
   have hz : ((g.length : Int) == 0) = true := beq_iff_eq.mpr (by omega)
   rw [hz]; simp only [spec_l01Times.j0, if_true]
 ·
  rw [if_neg h0]
  obtain ⟨K, h⟩ := outer f.length 0 (List.replicate (f.length + g.length - 1) 0) (by omega) (by simp) (InR.zeros (by omega) _)
  refine ⟨K + 1, fun k hk => ?_⟩
  obtain ⟨k, rfl⟩ : ∃ m, k = m + 1 := ⟨k - 1, by omega⟩
  have e := h k (by omega)
  simp only [Int.natCast_zero] at e
  have hz : ((g.length : Int) == 0) = false := beq_eq_false_iff_ne.mpr (by omega)
  have hw : wrap64 (wrap64 ((f.length : Int) + (g.length : Int)) - 1) = ((f.length + g.length - 1 : Nat) : Int) := by rw [w64 (x := (f.length : Int) + (g.length : Int)) (by omega) (by omega), w64 (by omega) (by omega)]; omega
  simp only [spec_l01Times.f]
  rw [if_neg (by omega), hz]
  simp only [spec_l01Times.j0, hw, Bool.false_eq_true, if_false]
  rw [if_pos (by omega), if_pos (by omega), Int.toNat_natCast, e]
  rfl
set_option maxHeartbeats 2000000 in
theorem impl_product {p : Int} {f g : List Int} (hp : 2 ≤ p) (hp2 : p ≤ 10007) (hf : f.length ≤ 1000) (hg : g.length ≤ 1000) (rf : InR p f) (rg : InR p g) : Ev (fun k => impl_field_product.f k p f g) (mulL p f g) := by
 have inner : ∀ (i : Nat) (r : List Int), i < f.length → ∀ d j (acc : List Int), j + d = g.length → acc.length = f.length + g.length - 1 → InR p acc →
   Ev (fun k => impl_field_product.l0 k p g (pr1 p (f.getD i 0) g i acc j d) f (f.length : Int) ((i + 1 : Nat) : Int)) r → Ev (fun k => impl_field_product.l1 k p g acc (i : Int) (f.getD i 0) f (f.length : Int) (i : Int) g (g.length : Int) (j : Int)) r := by
  intro i r hi d
  induction d with
  | zero =>
   intro j acc h1 h2 h3 ⟨K, h⟩
   refine ⟨K + 1, fun k hk => ?_⟩
   obtain ⟨k, rfl⟩ : ∃ m, k = m + 1 := ⟨k - 1, by omega⟩
   have e := h k (by omega)
   simp only [pr1] at e
   simp only [impl_field_product.l1]
   rw [if_neg (by omega), wn (by omega), e]
  | succ d ih =>
   intro j acc h1 h2 h3 h
   obtain ⟨K, h⟩ := ih (j + 1) (acc.set (i + j) ((acc.getD (i + j) 0 + f.getD i 0 * g.getD j 0) % p)) (by omega) (by simpa using h2) (h3.set _ (emod_bd (by omega))) h
   refine ⟨K + 1, fun k hk => ?_⟩
   obtain ⟨k, rfl⟩ : ∃ m, k = m + 1 := ⟨k - 1, by omega⟩
   have e := h k (by omega)
   simp only at e
   have hb := mul_bd2 hp2 (rf.get (by omega) i) (y := g.getD j 0) (by have := rg.get (by omega) j; omega)
   have ha := h3.get (by omega) (i + j)
   exact (impl_step k i j hp hp2 hi (by omega) (by omega) (by omega) hb ⟨ha.1, by omega⟩ _).trans e
 have outer : ∀ d i (acc : List Int), i + d = f.length → acc.length = f.length + g.length - 1 → InR p acc → Ev (fun k => impl_field_product.l0 k p g acc f (f.length : Int) (i : Int)) (trimL (pr0 p f g acc i d)) := by
  intro d
  induction d with
  | zero =>
   intro i acc h1 h2 h3
   obtain ⟨K, h⟩ := impl_trim acc (by omega)
   refine ⟨K + 1, fun k hk => ?_⟩
   obtain ⟨k, rfl⟩ : ∃ m, k = m + 1 := ⟨k - 1, by omega⟩
   have e := h k (by omega)
   simp only at e
   simp only [impl_field_product.l0]
   rw [if_neg (by omega), e]
   simp [pr0]
  | succ d ih =>
   intro i acc h1 h2 h3
   have hin := inner i _ (by omega) g.length 0 acc (by omega) h2 h3 (ih (i + 1) (pr1 p (f.getD i 0) g i acc 0 g.length) (by omega) (by rw [pr1_len]; exact h2) (pr1_inR (by omega) g i _ _ _ h3))
   obtain ⟨K, h⟩ := hin
   refine ⟨K + 1, fun k hk => ?_⟩
   obtain ⟨k, rfl⟩ : ∃ m, k = m + 1 := ⟨k - 1, by omega⟩
   have e := h k (by omega)
   simp only [Int.natCast_zero] at e
   simp only [impl_field_product.l0]
   rw [if_pos (by omega), if_pos (by omega), if_pos (by omega), rd_nat, e]
   rfl
 unfold mulL
 by_cases h0 : f.length = 0 ∨ g.length = 0
 ·
  rw [if_pos h0]
  refine ⟨1, fun k hk => ?_⟩
  obtain ⟨k, rfl⟩ : ∃ m, k = m + 1 := ⟨k - 1, by omega⟩
  simp only [impl_field_product.f]
  by_cases hf0 : (f.length : Int) = 0
  ·
   rw [if_pos hf0]; simp only [impl_field_product.j0, if_true]
  ·
   rw [if_neg hf0]
   have hz : ((g.length : Int) == 0) = true := beq_iff_eq.mpr (by omega)
   rw [hz]; simp only [impl_field_product.j0, if_true]
 ·
  rw [if_neg h0]
  obtain ⟨K, h⟩ := outer f.length 0 (List.replicate (f.length + g.length - 1) 0) (by omega) (by simp) (InR.zeros (by omega) _)
  refine ⟨K + 1, fun k hk => ?_⟩
  obtain ⟨k, rfl⟩ : ∃ m, k = m + 1 := ⟨k - 1, by omega⟩
  have e := h k (by omega)
  simp only [Int.natCast_zero] at e
  have hz : ((g.length : Int) == 0) = false := beq_eq_false_iff_ne.mpr (by omega)
  have hw : wrap64 (wrap64 ((f.length : Int) + (g.length : Int)) - 1) = ((f.length + g.length - 1 : Nat) : Int) := by rw [w64 (x := (f.length : Int) + (g.length : Int)) (by omega) (by omega), w64 (by omega) (by omega)]; omega
  simp only [impl_field_product.f]
  rw [if_neg (by omega), hz]
  simp only [impl_field_product.j0, hw, Bool.false_eq_true, if_false]
  rw [if_pos (by omega), if_pos (by omega), Int.toNat_natCast, e]
  rfl
theorem in_any (x a b : Int) : spec_l01In.f x a b = some (decide (a ≤ x) && decide (x ≤ b)) := by
 unfold spec_l01In.f; by_cases h : x ≥ a
 ·
  rw [if_pos h, decide_eq_true h, Bool.true_and]
 ·
  rw [if_neg h, decide_eq_false h, Bool.false_and]
theorem in_has {p : Int} (hp : IsP p) (x : Int) : spec_l01In.f x 0 (wrap64 (p - 1)) = some (hasB p x) := by
 rw [in_any, w64 (by have := hp.1; omega) (by have := hp.2.1; omega)]; unfold hasB; congr 2; exact decide_eq_decide.2 (by omega)
theorem _root_.Go.Proofs.Ytnigpjcnffgfgaa.Num.IsP.p2 {p : Int} (h : IsP p) : 2 ≤ p := h.1
theorem _root_.Go.Proofs.Ytnigpjcnffgfgaa.Num.IsP.pm {p : Int} (h : IsP p) : p ≤ 10007 := h.2.1
theorem _root_.Go.Proofs.Ytnigpjcnffgfgaa.Num.IsP.p0 {p : Int} (h : IsP p) : 0 < p := by have := h.1; omega
def valL (p : Int) (f : List Int) (x : Int) : Int := f.foldr (fun c o => (o * x + c) % p) 0
theorem valL_bd {p : Int} (hp : 0 < p) (f : List Int) (x : Int) : 0 ≤ valL p f x ∧ valL p f x < p := by
 cases f with
 | nil => exact ⟨Int.le_refl _, hp⟩
 | cons c f => exact emod_bd hp
theorem hor_bd {p o x c : Int} (hp2 : p ≤ 10007) (ho : 0 ≤ o ∧ o < p) (hx : 0 ≤ x ∧ x < p) (hc : 0 ≤ c ∧ c < p) : 0 ≤ o * x ∧ o * x ≤ 1000700000 ∧ 0 ≤ o * x + c ∧ o * x + c ≤ 2000000000 := by
 have := mul_bd2 hp2 ho (y := x) (by omega); omega
theorem impl_val {p x : Int} {f : List Int} (hp : 2 ≤ p) (hp2 : p ≤ 10007) (rf : InR p f) (hx : 0 ≤ x ∧ x < p) : impl_field_value.f p f x = some (valL p f x) := by
 unfold impl_field_value.f
 rw [if_neg (by omega)]
 congr 1
 induction f with
 | nil => rfl
 | cons c f ih =>
  have hc := rf c (by simp)
  have rf' : InR p f := fun y hy => rf y (by simp [hy])
  have hb := valL_bd (p := p) (by omega) f x
  have h := hor_bd hp2 hb hx hc
  rw [List.foldr_cons, ih rf', stepv, w64 (x := valL p f x * x) (by omega) (by omega), w64 (by omega) (by omega), impl_mod (by omega) (by omega)]
  rfl
theorem spec_val {p x : Int} {f : List Int} (hp : 2 ≤ p) (hp2 : p ≤ 10007) (hf : f.length ≤ 1000) (rf : InR p f) (hx : 0 ≤ x ∧ x < p) : Ev (fun k => spec_l01At.f k p f x) (valL p f x) := by
 have loop : ∀ n, n ≤ f.length → Ev (fun k => spec_l01At.l0 k p f x (valL p (f.drop n) x) ((n : Int) - 1)) (valL p f x) := by
  intro n
  induction n with
  | zero => intro _; refine Ev.succ ?_; simp (disch := omega) only [spec_l01At.l0, if_neg, List.drop_zero]; exact Ev.now _
  | succ n ih =>
   intro hn
   have hb := valL_bd (p := p) (by omega) (f.drop (n + 1)) x
   have hc := rf.get (by omega) n
   have h := hor_bd hp2 hb hx hc
   have e : valL p (f.drop n) x = (valL p (f.drop (n + 1)) x * x + f.getD n 0) % p := by
    rw [List.drop_eq_getElem_cons (show n < f.length by omega), List.getD_eq_getElem?_getD, List.getElem?_eq_getElem (show n < f.length by omega)]
    rfl
   have hi := ih (by omega)
   rw [e] at hi
   refine Ev.succ ?_
   simp (disch := omega) only [spec_l01At.l0, ws1, if_pos, if_neg, rd_n, w64, wm1, tmod_nn]
   exact hi
 have h := loop f.length (Nat.le_refl _)
 rw [List.drop_length] at h
 simp only [spec_l01At.f, wm1 (show f.length ≤ 1000000000000 by omega)]
 exact h
def co (l : List Int) (i : Nat) : Int := l.getD i 0
theorem co_ge {l : List Int} {i : Nat} (h : l.length ≤ i) : co l i = 0 := by simp [co, List.getD_eq_getElem?_getD, h]
theorem co_take {l : List Int} {n i : Nat} : co (l.take n) i = if i < n then co l i else 0 := by
 unfold co
 simp only [List.getD_eq_getElem?_getD, List.getElem?_take]
 split <;> rfl
theorem tlen_zero (l : List Int) : ∀ n i, tlen l n ≤ i → i < n → l.getD i 0 = 0
 | 0, i, _, h => by omega
 | n + 1, i, h1, h2 => by
  unfold tlen at h1
  split at h1
  ·
   rename_i h0
   by_cases e : i = n
   ·
    subst e; exact h0
   ·
    exact tlen_zero l n i h1 (by omega)
  ·
   omega
theorem tlen_last (l : List Int) : ∀ n, tlen l n = 0 ∨ l.getD (tlen l n - 1) 0 ≠ 0
 | 0 => .inl rfl
 | n + 1 => by
  unfold tlen
  split
  ·
   exact tlen_last l n
  ·
   right; simpa using ‹_›
theorem trimL_length (l : List Int) : (trimL l).length = tlen l l.length := by
 unfold trimL; rw [List.length_take, Nat.min_eq_left (tlen_le _ _)]
theorem co_trim (l : List Int) (i : Nat) : co (trimL l) i = co l i := by
 unfold trimL
 rw [co_take]
 split
 ·
  rfl
 ·
  rename_i h
  by_cases hi : i < l.length
  ·
   exact (tlen_zero l l.length i (by omega) hi).symm
  ·
   exact (co_ge (by omega)).symm
def Nz (l : List Int) : Prop := l.length = 0 ∨ co l (l.length - 1) ≠ 0
theorem Nz.trim (l : List Int) : Nz (trimL l) := by
 unfold Nz
 rw [co_trim, trimL_length]
 exact tlen_last l l.length
theorem spec_points {p : Int} (hp : IsP p) (l : List Int) (hl : l.length ≤ 1000000000) : Ev (fun k => spec_l01Points.f k p l false) (l.all (hasB p)) := by
 have loop : ∀ d i, i + d = l.length → Ev (fun k => spec_l01Points.l0 k p l false (i : Int)) ((l.drop i).all (hasB p)) := by
  intro d
  induction d with
  | zero => intro i h; refine Ev.succ ?_; simp (disch := omega) only [spec_l01Points.l0, if_neg, List.drop_of_length_le]; exact Ev.now _
  | succ d ih =>
   intro i h
   have hi := ih (i + 1) (by omega)
   refine Ev.succ ?_
   rw [List.drop_eq_getElem_cons (show i < l.length by omega), List.all_cons]
   simp (disch := omega) only [spec_l01Points.l0, if_pos, in_has hp, Option.bind_some, rd_lt l i (show i < l.length by omega)]
   cases hb : hasB p (l[i]'(by omega)) with
   | true =>
    simp only [if_true, Bool.true_and]
    refine Ev.succ ?_
    simp only [spec_l01Points.l1, ite_self]
    refine Ev.succ ?_
    simp (disch := omega) only [spec_l01Points.j2, Bool.false_eq_true, if_false, wp1]
    exact hi
   | false => simp only [Bool.false_eq_true, if_false, Bool.false_and]; exact Ev.now _
 have h := loop l.length 0 (by omega)
 simp only [spec_l01Points.f]
 exact h
theorem compact_all (s : List Int) : (Lib.compact s).length = s.length ↔ ∀ j, j < s.length → 0 < j → s.getD j 0 ≠ s.getD (j - 1) 0 := by
 have e : (Lib.compact s).length = s.length ↔ ((List.range s.length).filter (Lib.keeps s.toArray)).length = (List.range s.length).length := by
  unfold Lib.compact Lib.compactUpTo
  rw [List.length_map, List.length_range]
 rw [e, List.length_filter_eq_length_iff]
 constructor
 ·
  intro h j hj h0
  have := h j (List.mem_range.2 hj)
  intro he
  rw [Lib.keeps_neg h0] at this
  ·
   cases this
  ·
   simpa [List.getElem!_eq_getElem?_getD, List.getD_eq_getElem?_getD] using he
 ·
  intro h j hj
  have hj := List.mem_range.1 hj
  rcases Nat.eq_zero_or_pos j with h0 | h0
  ·
   exact Lib.keeps_lt_one _ _ (by omega)
  ·
   exact Lib.keeps_pos (by simpa [List.getElem!_eq_getElem?_getD, List.getD_eq_getElem?_getD] using h j hj h0)
theorem diffB_iff (l : List Int) : diffB l = true ↔ l.Nodup := by
 unfold diffB
 rw [decide_eq_true_eq]
 have hp := List.mergeSort_perm l (fun x y => decide (x ≤ y))
 have hs := List.pairwise_mergeSort (le := fun x y : Int => decide (x ≤ y)) (by intro a b c; simp; omega) (by intro a b; simp; omega) l
 rw [← hp.nodup_iff]
 have hlen := hp.length_eq
 generalize l.mergeSort (fun x y => decide (x ≤ y)) = s at hs hlen ⊢
 rw [← hlen, compact_all]
 have hs' : ∀ i j, i < j → j < s.length → s.getD i 0 ≤ s.getD j 0 := by
  intro i j hij hj
  have := List.pairwise_iff_getElem.1 hs i j (by omega) hj hij
  rw [List.getD_eq_getElem?_getD, List.getD_eq_getElem?_getD, List.getElem?_eq_getElem (by omega), List.getElem?_eq_getElem hj]
  simpa using this
 constructor
 ·
  intro h
  refine List.nodup_iff_pairwise_ne.2 (List.pairwise_iff_getElem.2 fun i j hi hj hij he => ?_)
  have e1 : s.getD i 0 = s.getD j 0 := by
   rw [List.getD_eq_getElem?_getD, List.getD_eq_getElem?_getD, List.getElem?_eq_getElem hi, List.getElem?_eq_getElem hj]
   simpa using he
  have h1 := h j hj (by omega)
  have h2 : s.getD (j - 1) 0 ≤ s.getD j 0 := hs' _ _ (by omega) hj
  rcases Nat.eq_or_lt_of_le (show i ≤ j - 1 by omega) with h3 | h3
  ·
   rw [← h3] at h1; exact h1 e1.symm
  ·
   have h4 := hs' i (j - 1) h3 (by omega)
   omega
 ·
  intro h j hj h0 he
  have := List.pairwise_iff_getElem.1 (List.nodup_iff_pairwise_ne.1 h) (j - 1) j (by omega) hj (by omega)
  rw [List.getD_eq_getElem?_getD, List.getD_eq_getElem?_getD, List.getElem?_eq_getElem hj, List.getElem?_eq_getElem (show j - 1 < s.length by omega)] at he
  exact this (by simpa using he.symm)
def ptB (p : Int) (l : List Int) : Nat → Nat → Bool
 | _, 0 => true
 | i, d + 1 => hasB p (l.getD i 0) && (!((l.take i).any fun y => decide (y = l.getD i 0)) && ptB p l (i + 1) d)
theorem any_take (l : List Int) (c : Int) (i : Nat) (hi : i ≤ l.length) : ((l.take i).any fun y => decide (y = c)) = true ↔ ∃ k, k < i ∧ l.getD k 0 = c := by
 rw [List.any_eq_true]
 constructor
 ·
  rintro ⟨y, hy, hc⟩
  obtain ⟨k, hk, e⟩ := List.getElem_of_mem hy
  rw [List.length_take] at hk
  refine ⟨k, by omega, ?_⟩
  rw [List.getD_eq_getElem?_getD, List.getElem?_eq_getElem (show k < l.length by omega)]
  rw [List.getElem_take] at e
  simpa [e] using hc
 ·
  rintro ⟨k, hk, hc⟩
  refine ⟨l[k]'(by omega), ?_, ?_⟩
  ·
   rw [List.mem_iff_getElem]; exact ⟨k, by rw [List.length_take]; omega, by rw [List.getElem_take]⟩
  ·
   rw [List.getD_eq_getElem?_getD, List.getElem?_eq_getElem (show k < l.length by omega)] at hc
   simpa using hc
theorem ptB_iff (p : Int) (l : List Int) : ∀ d i, i + d = l.length → (ptB p l i d = true ↔ ∀ j, i ≤ j → j < l.length → hasB p (l.getD j 0) = true ∧ ∀ k, k < j → l.getD k 0 ≠ l.getD j 0)
 | 0, i, h => by
  constructor
  ·
   intro _ j h1 h2; omega
  ·
   intro _; rfl
 | d + 1, i, h => by
  have ih := ptB_iff p l d (i + 1) (by omega)
  simp only [ptB, Bool.and_eq_true, Bool.not_eq_true']
  rw [ih]
  have hn : ((l.take i).any fun y => decide (y = l.getD i 0)) = false ↔ ∀ k, k < i → l.getD k 0 ≠ l.getD i 0 := by
   rw [Bool.eq_false_iff, Ne, any_take l _ i (by omega)]
   exact ⟨fun h k hk e => h ⟨k, hk, e⟩, fun h ⟨k, hk, e⟩ => h k hk e⟩
  rw [hn]
  constructor
  ·
   rintro ⟨h1, h2, h3⟩ j hj hl
   rcases Nat.eq_or_lt_of_le hj with rfl | hj
   ·
    exact ⟨h1, h2⟩
   ·
    exact h3 j hj hl
  ·
   intro H
   exact ⟨(H i (by omega) (by omega)).1, (H i (by omega) (by omega)).2, fun j hj hl => H j (by omega) hl⟩
theorem ptB_all (p : Int) (l : List Int) : ptB p l 0 l.length = (l.all (hasB p) && diffB l) := by
 rw [Bool.eq_iff_iff, Bool.and_eq_true, ptB_iff p l l.length 0 (by omega), diffB_iff, List.all_eq_true, List.nodup_iff_pairwise_ne, List.pairwise_iff_getElem]
 have g : ∀ i (h : i < l.length), l.getD i 0 = l[i] := fun i h => by rw [List.getD_eq_getElem?_getD, List.getElem?_eq_getElem h]; rfl
 constructor
 ·
  intro H
  refine ⟨fun x hx => ?_, fun i j hi hj hij => ?_⟩
  ·
   obtain ⟨j, hj, rfl⟩ := List.getElem_of_mem hx
   have := (H j (Nat.zero_le _) hj).1
   rwa [g j hj] at this
  ·
   have := (H j (Nat.zero_le _) hj).2 i hij
   rwa [g i hi, g j hj] at this
 ·
  rintro ⟨h1, h2⟩ j _ hj
  refine ⟨by rw [g j hj]; exact h1 _ (List.getElem_mem hj), fun k hk => ?_⟩
  rw [g j hj, g k (by omega)]
  exact h2 k j (by omega) hj hk
theorem spec_points2 {p : Int} (hp : IsP p) (l : List Int) (hl : l.length ≤ 1000000000) : Ev (fun k => spec_l01Points.f k p l true) (l.all (hasB p) && diffB l) := by
 rw [← ptB_all]
 have loop : ∀ d i, i + d = l.length → Ev (fun k => spec_l01Points.l0 k p l true (i : Int)) (ptB p l i d) := by
  intro d
  induction d with
  | zero => intro i h; refine Ev.succ ?_; simp (disch := omega) only [spec_l01Points.l0, if_neg, ptB]; exact Ev.now _
  | succ d ih =>
   intro i h
   have hi := ih (i + 1) (by omega)
   refine Ev.succ ?_
   simp (disch := omega) only [spec_l01Points.l0, if_pos, in_has hp, Option.bind_some, rd_n]
   simp only [ptB]
   cases hb : hasB p (l.getD i 0) with
   | false => simp only [Bool.false_eq_true, if_false, Bool.false_and]; exact Ev.now _
   | true =>
    simp only [if_true, Bool.true_and]
    have inner : ∀ q k, k + q = i → Ev (fun r => spec_l01Points.l1 r p l true (i : Int) (k : Int)) (!(((l.take i).drop k).any fun y => decide (y = l.getD i 0)) && ptB p l (i + 1) d) := by
     intro q
     induction q with
     | zero =>
      intro k hk
      refine Ev.succ ?_
      rw [List.drop_of_length_le (by rw [List.length_take]; omega)]
      simp (disch := omega) only [spec_l01Points.l1, if_neg, List.any_nil, Bool.not_false, Bool.true_and]
      refine Ev.succ ?_
      simp (disch := omega) only [spec_l01Points.j2, Bool.false_eq_true, if_false, wp1]
      exact hi
     | succ q ihq =>
      intro k hk
      have hq := ihq (k + 1) (by omega)
      refine Ev.succ ?_
      have ed : (l.take i).drop k = l.getD k 0 :: (l.take i).drop (k + 1) := by
       rw [List.drop_eq_getElem_cons (by rw [List.length_take]; omega), List.getElem_take, List.getD_eq_getElem?_getD, List.getElem?_eq_getElem (show k < l.length by omega)]
       rfl
      rw [ed, List.any_cons]
      simp (disch := omega) only [spec_l01Points.l1, if_pos]
      refine Ev.succ ?_
      simp (disch := omega) only [spec_l01Points.j2, if_true, if_pos, rd_n, wp1]
      by_cases hc : l.getD k 0 = l.getD i 0
      ·
       simp only [if_pos hc, decide_eq_true hc, Bool.true_or, Bool.not_true, Bool.false_and]; exact Ev.now _
      ·
       simp only [if_neg hc, decide_eq_false hc, Bool.false_or]; exact hq
    have := inner i 0 (by omega)
    simpa using this
 have h := loop l.length 0 (by omega)
 simp only [spec_l01Points.f]
 exact h
noncomputable def ndB (p : Int) (xs ys : List Int) (m : Int) : Bool := primeB p && (decide ((xs.length : Int) ≤ m) && (decide (ys.length = xs.length) && (xs.all (hasB p) && (ys.all (hasB p) && diffB xs))))
theorem impl_nodes (p : Int) (xs ys : List Int) (m : Int) (hm : m ≤ 1000) : Ev (fun k => impl_areNodes.f k p xs ys m) (ndB p xs ys m) := by
 simp only [impl_areNodes.f]
 refine Ev.bind (impl_prime p) ?_
 unfold ndB
 cases hp : primeB p with
 | false => simp only [Bool.false_eq_true, if_false, Bool.false_and]; exact Ev.now _
 | true =>
  by_cases c1 : (xs.length : Int) ≤ m
  ·
   by_cases c2 : ys.length = xs.length
   ·
    simp only [if_true, if_pos c1, if_pos (show (ys.length : Int) = xs.length by omega), decide_eq_true c1, decide_eq_true c2, Bool.true_and, impl_areAll_has.f, Option.bind_some]
    cases xs.all (hasB p) with
    | false => simp only [Bool.false_eq_true, if_false, Bool.false_and]; exact Ev.now _
    | true =>
     cases ys.all (hasB p) with
     | false => simp only [if_true, Bool.false_eq_true, if_false, Bool.false_and, Bool.and_false]; exact Ev.now _
     | true =>
      simp only [if_true, impl_areDifferent.f, if_pos (show xs.length ≤ 1000000 by omega), Option.bind_some, Bool.true_and]; exact Ev.now _
   ·
    simp only [if_true, if_pos c1, if_neg (show ¬ (ys.length : Int) = xs.length by omega), decide_eq_true c1, decide_eq_false c2, Bool.false_and, Bool.and_false]; exact Ev.now _
  ·
   simp only [if_true, if_neg c1, decide_eq_false c1, Bool.false_and, Bool.and_false]; exact Ev.now _
theorem ndB_iff {p m : Int} {xs ys : List Int} (h : ndB p xs ys m = true) : IsP p ∧ (xs.length : Int) ≤ m ∧ ys.length = xs.length ∧ InR p xs ∧ InR p ys := by
 simp only [ndB, Bool.and_eq_true, decide_eq_true_eq, List.all_eq_true] at h
 exact ⟨primeB_iff.1 h.1, h.2.1, h.2.2.1, fun x hx => hasB_iff.1 (h.2.2.2.1 x hx), fun x hx => hasB_iff.1 (h.2.2.2.2.1 x hx)⟩
def intK (p : Int) (xs ys : List Int) (i : Nat) (out base : List Int) : Int := (ys.getD i 0 - valL p out (xs.getD i 0)) % p * inv p (valL p base (xs.getD i 0)) % p
def intF (p : Int) (xs ys : List Int) : Nat → Nat → List Int → List Int → List Int
 | 0, _, out, _ => out
 | d + 1, i, out, base => intF p xs ys d (i + 1) (addL p out base (intK p xs ys i out base)) (mulL p base [(-xs.getD i 0) % p, 1])
theorem lin2_inR {p : Int} (hp : 2 ≤ p) (r : Int) : InR p [(-r) % p, 1] := fun y hy => by
 simp only [List.mem_cons, List.not_mem_nil, or_false] at hy
 rcases hy with rfl | rfl
 ·
  exact emod_bd (by omega)
 ·
  omega
theorem int_len {p : Int} {out base : List Int} {c r : Int} {i : Nat} (ho : out.length ≤ i) (hb : base.length ≤ i + 1) : (addL p out base c).length ≤ i + 1 ∧ (mulL p base [(-r) % p, 1]).length ≤ i + 2 := by
 have h1 := addL_len p out base c
 have h2 := mulL_len p base [(-r) % p, 1]
 simp only [List.length_cons, List.length_nil] at h2
 omega
theorem intF_len (p : Int) (xs ys : List Int) : ∀ d i out base, out.length ≤ i → base.length ≤ i + 1 → (intF p xs ys d i out base).length ≤ i + d
 | 0, i, out, base, h, _ => h
 | d + 1, i, out, base, h, hb => by
  have h1 := int_len (p := p) (c := intK p xs ys i out base) (r := xs.getD i 0) h hb
  have := intF_len p xs ys d (i + 1) (addL p out base (intK p xs ys i out base)) (mulL p base [(-xs.getD i 0) % p, 1]) h1.1 h1.2
  simp only [intF]; omega
theorem spec_interp {p : Int} {xs ys : List Int} (hp : IsP p) (rx : InR p xs) (ry : InR p ys) (hl : ys.length = xs.length) (hx : xs.length ≤ 25) :
  ∀ d i out base, i + d = xs.length → out.length ≤ i → base.length ≤ i + 1 → InR p out → InR p base → Ev (fun k => spec_l01Interpolate.l0 k p xs ys out base (i : Int)) (intF p xs ys d i out base) := by
 intro d
 induction d with
 | zero => intro i out base h _ _ _ _; refine Ev.succ ?_; simp (disch := omega) only [spec_l01Interpolate.l0, if_neg]; exact Ev.now _
 | succ d ih =>
  intro i out base h ho hb ro rb
  have hp2 := hp.p2
  have hpm := hp.pm
  have x0 := rx.get hp.p0 i
  have y0 := ry.get hp.p0 i
  have v1 := valL_bd hp.p0 out (xs.getD i 0)
  have v2 := inv_bd hp.p0 (valL p base (xs.getD i 0))
  have m1 := emod_bd (x := ys.getD i 0 - valL p out (xs.getD i 0)) hp.p0
  have mm := mul_bd (a := 10007) (b := 10007) m1.1 (by omega) v2.1 (by omega)
  have kb : 0 ≤ intK p xs ys i out base ∧ intK p xs ys i out base < p := emod_bd hp.p0
  have hn := ih (i + 1) _ _ (by omega) (int_len (p := p) (c := intK p xs ys i out base) (r := xs.getD i 0) ho hb).1 (int_len (p := p) (c := intK p xs ys i out base) (r := xs.getD i 0) ho hb).2 (addL_inR hp.p0 ro _ _) (mulL_inR hp.p0 _ _)
  refine Ev.succ ?_
  have w1 : wrap64 (ys.getD i 0 - valL p out (xs.getD i 0)) = ys.getD i 0 - valL p out (xs.getD i 0) := w64 (by omega) (by omega)
  have w2 : wrap64 ((ys.getD i 0 - valL p out (xs.getD i 0)) % p * inv p (valL p base (xs.getD i 0))) = (ys.getD i 0 - valL p out (xs.getD i 0)) % p * inv p (valL p base (xs.getD i 0)) := w64 (by omega) (by omega)
  have w3 : wrap64 (-xs.getD i 0) = -xs.getD i 0 := w64 (by omega) (by omega)
  have q1 : (i : Int) < (xs.length : Int) := by omega
  have q2 : (0 : Int) ≤ (i : Int) := by omega
  have q3 : (i : Int) < (ys.length : Int) := by omega
  simp only [spec_l01Interpolate.l0, if_pos q1, if_pos q2, if_pos q3, rd_n]
  refine Ev.bind (spec_val hp2 hpm (by omega) ro x0) ?_
  simp only [w1, spec_mod hp.p0 (show p ≤ 1000000000 by omega), Option.bind_some]
  refine Ev.bind (spec_val hp2 hpm (by omega) rb x0) ?_
  refine Ev.bind (spec_inverse hp2 hpm) ?_
  rw [show valL p base (xs.getD i 0) ^ (p - 2).toNat % p = inv p (valL p base (xs.getD i 0)) from rfl]
  simp only [if_neg (show ¬ p = 0 by omega), w2, tmod_nn mm.1]
  refine Ev.bind (spec_add (c := intK p xs ys i out base) hp2 hpm (by omega) (by omega) ro rb kb.1 (by omega)) ?_
  simp only [w3, spec_mod hp.p0 (show p ≤ 1000000000 by omega), Option.bind_some, wp1 (show i ≤ 1000000000000 by omega)]
  refine Ev.bind (spec_product hp2 hpm (by omega) (by simp) rb (lin2_inR hp2 _)) ?_
  exact hn
theorem impl_interp {p : Int} {xs ys : List Int} (hp : IsP p) (rx : InR p xs) (ry : InR p ys) (hl : ys.length = xs.length) (hx : xs.length ≤ 25) :
  ∀ d i out base, i + d = xs.length → out.length ≤ i → base.length ≤ i + 1 → InR p out → InR p base → Ev (fun k => impl_field_interpolate.l0 k p ys out base xs (xs.length : Int) (i : Int)) (intF p xs ys d i out base) := by
 intro d
 induction d with
 | zero => intro i out base h _ _ _ _; refine Ev.succ ?_; simp (disch := omega) only [impl_field_interpolate.l0, if_neg]; exact Ev.now _
 | succ d ih =>
  intro i out base h ho hb ro rb
  have hp2 := hp.p2
  have hpm := hp.pm
  have x0 := rx.get hp.p0 i
  have y0 := ry.get hp.p0 i
  have v1 := valL_bd hp.p0 out (xs.getD i 0)
  have v3 := valL_bd hp.p0 base (xs.getD i 0)
  have v2 := inv_bd hp.p0 (valL p base (xs.getD i 0))
  have m1 := emod_bd (x := ys.getD i 0 - valL p out (xs.getD i 0)) hp.p0
  have mm := mul_bd (a := 10007) (b := 10007) m1.1 (by omega) v2.1 (by omega)
  have kb : 0 ≤ intK p xs ys i out base ∧ intK p xs ys i out base < p := emod_bd hp.p0
  have hn := ih (i + 1) _ _ (by omega) (int_len (p := p) (c := intK p xs ys i out base) (r := xs.getD i 0) ho hb).1 (int_len (p := p) (c := intK p xs ys i out base) (r := xs.getD i 0) ho hb).2 (addL_inR hp.p0 ro _ _) (mulL_inR hp.p0 _ _)
  refine Ev.succ ?_
  have w1 : wrap64 (ys.getD i 0 - valL p out (xs.getD i 0)) = ys.getD i 0 - valL p out (xs.getD i 0) := w64 (by omega) (by omega)
  have w3 : wrap64 (-xs.getD i 0) = -xs.getD i 0 := w64 (by omega) (by omega)
  have q1 : (i : Int) < (xs.length : Int) := by omega
  have q2 : (0 : Int) ≤ (i : Int) := by omega
  have q3 : (i : Int) < (ys.length : Int) := by omega
  have hdiv : Ev (fun k => impl_field_div.f k p ((ys.getD i 0 - valL p out (xs.getD i 0)) % p) (valL p base (xs.getD i 0))) (intK p xs ys i out base) := by
   simp only [impl_field_div.f]
   refine Ev.bind (impl_inverse hp2 hpm v3.1 v3.2) ?_
   rw [show valL p base (xs.getD i 0) ^ (p - 2).toNat % p = inv p (valL p base (xs.getD i 0)) from rfl]
   simp only [impl_mul hp.p0 (show p ≤ 1000000000 by omega) (show -9223372036854775808 ≤ (ys.getD i 0 - valL p out (xs.getD i 0)) % p * inv p (valL p base (xs.getD i 0)) by omega) (show (ys.getD i 0 - valL p out (xs.getD i 0)) % p * inv p (valL p base (xs.getD i 0)) ≤ 9223372036854775807 by omega), Option.bind_some]
   exact Ev.now _
  simp only [impl_field_interpolate.l0, if_pos q1, if_pos q2, if_pos q3, rd_n, impl_val hp2 hpm ro x0, impl_val hp2 hpm rb x0, w1, impl_mod hp.p0 (show p ≤ 1000000000 by omega), Option.bind_some]
  refine Ev.bind hdiv ?_
  refine Ev.bind (impl_add (c := intK p xs ys i out base) hp2 hpm (by omega) (by omega) ro rb kb.1 (by omega)) ?_
  simp only [w3, wp1 (show i ≤ 1000000000000 by omega)]
  refine Ev.bind (impl_product hp2 hpm (by omega) (by simp) rb (lin2_inR hp2 _)) ?_
  exact hn
def ro (rows : List (List Int)) (i : Nat) : List Int := rows.getD i []
theorem ro_set (rows : List (List Int)) (b i : Nat) (x : List Int) (h : b < rows.length) : ro (rows.set b x) i = if i = b then x else ro rows i := by
 unfold ro
 rw [List.getD_eq_getElem?_getD, List.getD_eq_getElem?_getD]
 by_cases e : i = b
 ·
  subst e; rw [if_pos rfl, List.getElem?_set_self h]; rfl
 ·
  rw [if_neg e, List.getElem?_set_ne (fun h => e h.symm)]
structure Sq (p : Int) (n : Nat) (rows : List (List Int)) : Prop where
 len : rows.length = n
 row : ∀ i, i < n → (ro rows i).length = n
 inR : ∀ i, i < n → InR p (ro rows i)
theorem Sq.set {p : Int} {n : Nat} {rows : List (List Int)} (h : Sq p n rows) {b : Nat} (hb : b < n) {x : List Int} (hx : x.length = n) (hr : InR p x) : Sq p n (rows.set b x) := by
 refine ⟨by rw [List.length_set, h.len], fun i hi => ?_, fun i hi => ?_⟩
 ·
  rw [ro_set _ _ _ _ (by rw [h.len]; exact hb)]
  split
  ·
   exact hx
  ·
   exact h.row i hi
 ·
  rw [ro_set _ _ _ _ (by rw [h.len]; exact hb)]
  split
  ·
   exact hr
  ·
   exact h.inR i hi
end Go.Proofs.Ytnigpjcnffgfgaa.H
