/- Plain laws that the claim of FnExactMomentsOfNodes reaches: numbers modulo a prime, lists, and what the printed functions answer. -/
import Derived.RowKit
import Derived.Test.YtnigpjcnffgfgaaYWWords
import Derived.Test.YtnigpjcnffgfgaaYWMore
import Derived.Test.YtnigpjcnffgfgaaMab1
import Derived.Test.YtnigpjcnffgfgaaMab2
import Derived.Test.YtnigpjcnffgfgaaMb1
import Derived.Test.YtnigpjcnffgfgaaMb2
import Derived.Test.YtnigpjcnffgfgaaMab3
import Derived.Test.YtnigpjcnffgfgaaMb3
import Derived.Test.YtnigpjcnffgfgaaMb4
set_option linter.unusedVariables false
set_option linter.unusedSimpArgs false
namespace Go.Proofs.Ytnigpjcnffgfgaa.Num
open Go.RowKit
theorem w64 {x : Int} (h1 : -9223372036854775808 ≤ x) (h2 : x ≤ 9223372036854775807) : wrap64 x = x := by
 unfold wrap64; omega
theorem tmod_nn {a b : Int} (h : 0 ≤ a) : Int.tmod a b = a % b := Int.tmod_eq_emod_of_nonneg h
theorem tmod_lt' {x p : Int} (hp : 0 < p) : Int.tmod x p < p ∧ -p < Int.tmod x p := by
 constructor
 ·
  exact Int.tmod_lt_of_pos x hp
 ·
  have h := Int.tmod_lt_of_pos (-x) hp
  rw [Int.neg_tmod] at h
  omega
theorem md {x p : Int} (hp : 0 < p) (hp2 : p ≤ 1000000000) : Int.tmod (wrap64 (Int.tmod x p + p)) p = x % p := by
 obtain ⟨h1, h2⟩ := tmod_lt' (x := x) hp
 rw [w64 (by omega) (by omega), tmod_nn (by omega), Int.tmod_def]
 have : x - p * x.tdiv p + p = x + p * (1 - x.tdiv p) := by
  rw [Int.mul_sub]; omega
 rw [this, Int.add_mul_emod_self_left]
theorem emod_bd {x p : Int} (hp : 0 < p) : 0 ≤ x % p ∧ x % p < p := ⟨Int.emod_nonneg _ (by omega), Int.emod_lt_of_pos _ hp⟩
theorem mul_bd {x y a b : Int} (hx0 : 0 ≤ x) (hx : x ≤ a) (hy0 : 0 ≤ y) (hy : y ≤ b) : 0 ≤ x * y ∧ x * y ≤ a * b :=
 ⟨Int.mul_nonneg hx0 hy0, Int.mul_le_mul hx hy hy0 (by omega)⟩
theorem em_l (a b p : Int) : a % p * b % p = a * b % p := by rw [Int.mul_emod, Int.emod_emod, ← Int.mul_emod]
theorem em_r (a b p : Int) : a * (b % p) % p = a * b % p := by rw [Int.mul_emod, Int.emod_emod, ← Int.mul_emod]
theorem ea_r (a b p : Int) : (a + b % p) % p = (a + b) % p := Int.add_emod_emod _ _ _
def Pr (p : Nat) : Prop := 2 ≤ p ∧ ∀ d, d ∣ p → d = 1 ∨ d = p
theorem Pr.of_trial {p : Nat} (h2 : 2 ≤ p) (h : ∀ d, 2 ≤ d → d * d ≤ p → p % d ≠ 0) : Pr p := by
 refine ⟨h2, fun d hd => ?_⟩
 obtain ⟨e, he⟩ := hd
 have hd0 : 0 < d := by rcases Nat.eq_zero_or_pos d with h0 | h0; (subst h0; simp at he; omega); exact h0
 have he0 : 0 < e := by rcases Nat.eq_zero_or_pos e with h0 | h0; (subst h0; simp at he; omega); exact h0
 rcases Nat.lt_or_ge d 2 with h1 | h1
 ·
  left; omega
 rcases Nat.lt_or_ge e 2 with h3 | h3
 ·
  right
  have : e = 1 := by omega
  subst this; simpa using he.symm
 ·
  exfalso
  rcases Nat.le_total d e with hle | hle
  ·
   refine h d h1 ?_ ?_
   ·
    rw [he]; exact Nat.mul_le_mul_left d hle
   ·
    rw [he]; exact Nat.mul_mod_right d e
  ·
   refine h e h3 ?_ ?_
   ·
    rw [he]; exact Nat.mul_le_mul_right e hle
   ·
    rw [he]; exact Nat.mul_mod_left d e
theorem pow_emod (p x : Int) (n : Nat) : (x % p) ^ n % p = x ^ n % p := by
 induction n with
 | zero => simp
 | succ n ih => rw [Int.pow_succ, Int.pow_succ, Int.mul_emod, ih, Int.emod_emod_of_dvd _ (Int.dvd_refl p), ← Int.mul_emod]
theorem pw_step {p : Int} (out x : Int) (n : Nat) : out * (x * x % p) ^ n % p = out * x ^ (2 * n) % p := by
 rw [Int.mul_emod, pow_emod, ← Int.mul_emod, Int.pow_mul, show x ^ 2 = x * x by rw [Int.pow_succ, Int.pow_succ, Int.pow_zero, Int.one_mul]]
theorem pow_loop (l : Nat → Int → Int → Int → Int → Option Int) (fin : Int → Int → Option Int) (m : Int → Int) (p : Int) (hp : 2 ≤ p) (hp2 : p ≤ 1000000) (hm : ∀ y, 0 ≤ y → m y = y % p)
  (hl : ∀ k e out x, l (k + 1) p e out x = if e > 0 then (if Int.tmod e 2 = 1 then l k p (wrap64 (Int.tdiv e 2)) (m (wrap64 (out * x))) (m (wrap64 (x * x))) else l k p (wrap64 (Int.tdiv e 2)) out (m (wrap64 (x * x)))) else fin p out)
  (d : Nat) : ∀ (k : Nat) (e out x : Int), e < d → d < k → 0 ≤ e → e ≤ 1000000000 → 0 ≤ out → out < p → 0 ≤ x → x < p → l k p e out x = fin p (out * x ^ e.toNat % p) := by
 induction d with
 | zero => intro k e out x h; omega
 | succ d ih =>
  intro k e out x he hk h0 h9 o0 o1 x0 x1
  obtain ⟨k, rfl⟩ : ∃ m, k = m + 1 := ⟨k - 1, by omega⟩
  rw [hl]
  by_cases h : e > 0
  ·
   rw [if_pos h]
   have hb1 := mul_bd (a := 1000000) (b := 1000000) o0 (by omega) x0 (by omega)
   have hb2 := mul_bd (a := 1000000) (b := 1000000) x0 (by omega) x0 (by omega)
   have e1 : Int.tdiv e 2 = e / 2 := Int.tdiv_eq_ediv_of_nonneg h0
   have e2 : Int.tmod e 2 = e % 2 := tmod_nn h0
   have ew : wrap64 (e / 2) = e / 2 := w64 (by omega) (by omega)
   rw [e1, e2, ew, w64 (x := out * x) (by omega) (by omega), w64 (x := x * x) (by omega) (by omega), hm _ hb1.1, hm _ hb2.1]
   have b2 := emod_bd (x := x * x) (p := p) (by omega)
   have b1 := emod_bd (x := out * x) (p := p) (by omega)
   by_cases h1 : e % 2 = 1
   ·
    rw [if_pos h1, ih k (e / 2) (out * x % p) (x * x % p) (by omega) (by omega) (by omega) (by omega) b1.1 b1.2 b2.1 b2.2, pw_step]
    have hn : e.toNat = 2 * (e / 2).toNat + 1 := by omega
    rw [hn, Int.pow_succ, em_l]
    have : out * x * x ^ (2 * (e / 2).toNat) = out * (x ^ (2 * (e / 2).toNat) * x) := by
     rw [Int.mul_assoc, Int.mul_comm x]
    rw [this]
   ·
    rw [if_neg h1, ih k (e / 2) out (x * x % p) (by omega) (by omega) (by omega) (by omega) o0 o1 b2.1 b2.2, pw_step]
    have hn : e.toNat = 2 * (e / 2).toNat := by omega
    rw [hn]
  ·
   rw [if_neg h]
   have hz : e.toNat = 0 := by omega
   rw [hz, Int.pow_zero, Int.mul_one, Int.emod_eq_of_lt o0 o1]
def IsP (p : Int) : Prop := 2 ≤ p ∧ p ≤ 10007 ∧ Pr p.toNat
open Classical in
noncomputable def primeB (p : Int) : Bool := decide (IsP p)
theorem primeB_iff {p : Int} : primeB p = true ↔ IsP p := by
 unfold primeB; exact @decide_eq_true_iff _ (Classical.propDecidable _)
theorem prime_loop (l : Nat → Int → Int → Option Bool) (p : Int) (hp : 2 ≤ p) (hp2 : p ≤ 10007)
  (hl : ∀ k i, l (k + 1) p i = if wrap64 (i * i) ≤ p then (if i = 0 then none else (if Int.tmod p i = 0 then some false else l k p (wrap64 (i + 1)))) else some true)
  (d : Nat) : ∀ (k : Nat) (i : Int), 2 ≤ i → i ≤ 101 → 101 - i < d → d < k →
   ∃ b, l k p i = some b ∧ (b = true ↔ ∀ j : Int, i ≤ j → j * j ≤ p → p % j ≠ 0) := by
 induction d with
 | zero => intro k i h1 h2 h3; omega
 | succ d ih =>
  intro k i h1 h2 h3 hk
  obtain ⟨k, rfl⟩ : ∃ m, k = m + 1 := ⟨k - 1, by omega⟩
  rw [hl]
  have hb := mul_bd (a := 101) (b := 101) (x := i) (y := i) (by omega) h2 (by omega) h2
  rw [w64 (by omega) (by omega), w64 (x := i + 1) (by omega) (by omega)]
  by_cases hle : i * i ≤ p
  ·
   have hi : i ≤ 100 := by
    rcases Int.lt_or_le 100 i with h | h
    ·
     have := Int.mul_le_mul (a := 101) (b := 101) (c := i) (d := i) (by omega) (by omega) (by omega) (by omega); omega
    ·
     exact h
   rw [if_pos hle, if_neg (by omega), tmod_nn (by omega)]
   by_cases hd : p % i = 0
   ·
    rw [if_pos hd]
    exact ⟨false, rfl, by simp; exact ⟨i, Int.le_refl _, hle, hd⟩⟩
   ·
    rw [if_neg hd]
    obtain ⟨b, hb1, hb2⟩ := ih k (i + 1) (by omega) (by omega) (by omega) (by omega)
    refine ⟨b, hb1, hb2.trans ⟨fun h j hj hjj => ?_, fun h j hj hjj => h j (by omega) hjj⟩⟩
    by_cases e : j = i
    ·
     subst e; exact hd
    ·
     exact h j (by omega) hjj
  ·
   rw [if_neg hle]
   refine ⟨true, rfl, by simp; intro j hj hjj; exfalso; apply hle; exact Int.le_trans (Int.mul_le_mul hj hj (by omega) (by omega)) hjj⟩
theorem trial_iff {p : Int} (hp : 2 ≤ p) : (∀ j : Int, 2 ≤ j → j * j ≤ p → p % j ≠ 0) ↔ Pr p.toNat := by
 constructor
 ·
  intro h
  refine Pr.of_trial (by omega) fun d hd hdd h0 => ?_
  refine h d (by omega) ?_ ?_
  ·
   have : ((d * d : Nat) : Int) ≤ p := by omega
   simpa using this
  ·
   have : ((p.toNat % d : Nat) : Int) = 0 := by rw [h0]; rfl
   rw [Int.natCast_emod, Int.toNat_of_nonneg (by omega)] at this
   exact this
 ·
  intro h j hj hjj h0
  obtain ⟨d, rfl⟩ : ∃ d : Nat, j = d := ⟨j.toNat, by omega⟩
  obtain ⟨n, rfl⟩ : ∃ n : Nat, p = n := ⟨p.toNat, by omega⟩
  simp only [Int.toNat_natCast] at h
  have hdv : d ∣ n := by
   apply Nat.dvd_of_mod_eq_zero
   have : ((n % d : Nat) : Int) = 0 := by rw [Int.natCast_emod]; exact h0
   omega
  have hn : d * d ≤ n := by
   have : ((d * d : Nat) : Int) ≤ n := by simpa using hjj
   omega
  rcases h.2 d hdv with e | e
  ·
   omega
  ·
   subst e
   have : d * 2 ≤ d * d := Nat.mul_le_mul_left d (by omega)
   omega
theorem primeB_loop {p : Int} {b : Bool} (h1 : 2 ≤ p) (h2 : p ≤ 10007) (h : b = true ↔ ∀ j : Int, 2 ≤ j → j * j ≤ p → p % j ≠ 0) : b = primeB p := by
 rw [Bool.eq_iff_iff, primeB_iff, h, trial_iff h1]
 exact ⟨fun h => ⟨h1, h2, h⟩, fun h => h.2.2⟩
theorem primeB_lo {p : Int} (h : ¬ 2 ≤ p) : primeB p = false := by
 rw [Bool.eq_false_iff]; intro e; exact h (primeB_iff.1 e).1
theorem primeB_hi {p : Int} (h : ¬ p ≤ 10007) : primeB p = false := by
 rw [Bool.eq_false_iff]; intro e; exact h (primeB_iff.1 e).2.1
end Go.Proofs.Ytnigpjcnffgfgaa.Num
namespace Go.Proofs.Ytnigpjcnffgfgaa.H
open Go.RowKit Go.Proofs.YtnigpjcnffgfgaaW.PrintWords Go.Proofs.YtnigpjcnffgfgaaW.PrintLast Go.Proofs.YtnigpjcnffgfgaaW.PrintMore Go.Proofs.Ytnigpjcnffgfgaa.Num
theorem Ev.succ {α : Type} {g : Nat → Option α} {r : α} (h : Ev (fun k => g (k + 1)) r) : Ev g r := by
 obtain ⟨K, h⟩ := h
 refine ⟨K + 1, fun k hk => ?_⟩
 obtain ⟨m, rfl⟩ : ∃ m, k = m + 1 := ⟨k - 1, by omega⟩
 exact h m (by omega)
theorem wp1 {i : Nat} (h : i ≤ 1000000000000) : wrap64 ((i : Int) + 1) = ((i + 1 : Nat) : Int) := by rw [w64 (by omega) (by omega)]; omega
theorem rd_n (l : List Int) (i : Nat) : rd l (i : Int) = l.getD i 0 := by simp [rd]
theorem rd_lt (l : List Int) (i : Nat) (h : i < l.length) : rd l (i : Int) = l[i] := by simp [rd, h]
theorem wn {i : Nat} (h : i ≤ 1000000000000) : wrap64 ((i : Int) + 1) = ((i + 1 : Nat) : Int) := by rw [w64 (by omega) (by omega)]; omega
theorem toI_loop (l : List Int) (hl : l.length ≤ 1000000000) (d : Nat) : ∀ (k i : Nat) (acc : List Int), i + d = l.length → acc.length = l.length → acc.take i = l.take i → d < k → laws_toInt64S.l0 k l acc (i : Int) = some l := by
 induction d with
 | zero =>
  intro k i acc h1 h2 h3 hk
  obtain ⟨k, rfl⟩ : ∃ m, k = m + 1 := ⟨k - 1, by omega⟩
  simp only [laws_toInt64S.l0]
  rw [if_neg (by omega)]
  have : acc = l := by
   have e1 : acc.take i = acc := List.take_of_length_le (by omega)
   have e2 : l.take i = l := List.take_of_length_le (by omega)
   rw [e1, e2] at h3; exact h3
  rw [this]
 | succ d ih =>
  intro k i acc h1 h2 h3 hk
  obtain ⟨k, rfl⟩ : ∃ m, k = m + 1 := ⟨k - 1, by omega⟩
  simp only [laws_toInt64S.l0]
  rw [if_pos (by omega), if_pos (by omega), if_pos (by omega), wn (by omega), rd_lt l i (by omega), Int.toNat_natCast]
  refine ih k (i + 1) _ (by omega) (by simpa using h2) ?_ (by omega)
  rw [List.take_succ_eq_append_getElem (by simp; omega), List.take_succ_eq_append_getElem (by omega), List.getElem_set_self, List.take_set_of_le (Nat.le_refl i), h3]
theorem toI_same (l : List Int) (hl : l.length ≤ 1048576) : ∃ K, ∀ k, K ≤ k → laws_toInt64S.f k l = some l := by
 refine ⟨l.length + 2, fun k hk => ?_⟩
 unfold laws_toInt64S.f
 rw [if_pos (by omega), if_pos (by omega)]
 exact toI_loop l (by omega) l.length k 0 _ (by omega) (by simp) (by simp) (by omega)
theorem eqI_loop (l : List Int) (hl : l.length ≤ 1000000000) (d : Nat) : ∀ (k i : Nat), i + d = l.length → d < k → laws_eqInt64S.l0 k l l (i : Int) = some true := by
 induction d with
 | zero =>
  intro k i h1 hk
  obtain ⟨k, rfl⟩ : ∃ m, k = m + 1 := ⟨k - 1, by omega⟩
  simp only [laws_eqInt64S.l0]
  rw [if_neg (by omega)]
 | succ d ih =>
  intro k i h1 hk
  obtain ⟨k, rfl⟩ : ∃ m, k = m + 1 := ⟨k - 1, by omega⟩
  simp only [laws_eqInt64S.l0]
  rw [if_pos (by omega), if_pos (by omega), if_pos (by omega), if_pos trivial, wn (by omega)]
  exact ih k (i + 1) (by omega) (by omega)
theorem eqI_same (l : List Int) (hl : l.length ≤ 2000000) : ∃ K, ∀ k, K ≤ k → laws_eqInt64S.f k l l = some true := by
 refine ⟨l.length + 2, fun k hk => ?_⟩
 unfold laws_eqInt64S.f
 rw [if_pos rfl]
 exact eqI_loop l (by omega) l.length k 0 (by omega) (by omega)
def up (n : Int) : Nat → List Int
 | 0 => []
 | d + 1 => n :: up (n + 1) d
theorem up_len : ∀ (d : Nat) (n : Int), (up n d).length = d
 | 0, _ => rfl
 | d + 1, n => by simp [up, up_len d]
theorem mark_loop (d : Nat) : ∀ (k i : Nat) (l : List Int) (n : Int), i + d = l.length → l.length ≤ 1000000000 → 0 ≤ n → n + d ≤ 1000000000000 → d < k → laws_markInt64S.l0 k l n (i : Int) = some (n + d, l.take i ++ up n d) := by
 induction d with
 | zero =>
  intro k i l n h1 h2 h3 h4 hk
  obtain ⟨k, rfl⟩ : ∃ m, k = m + 1 := ⟨k - 1, by omega⟩
  simp only [laws_markInt64S.l0]
  rw [if_neg (by omega), List.take_of_length_le (by omega)]
  simp [up]
 | succ d ih =>
  intro k i l n h1 h2 h3 h4 hk
  obtain ⟨k, rfl⟩ : ∃ m, k = m + 1 := ⟨k - 1, by omega⟩
  simp only [laws_markInt64S.l0]
  have hw : wrap64 (n + 1) = n + 1 := w64 (by omega) (by omega)
  rw [if_pos (by omega), if_pos (by omega), wn (by omega), Int.toNat_natCast, hw]
  rw [ih k (i + 1) _ (n + 1) (by simp; omega) (by simpa using h2) (by omega) (by omega) (by omega)]
  rw [List.take_succ_eq_append_getElem (by simp; omega), List.getElem_set_self, List.take_set_of_le (Nat.le_refl i)]
  simp only [up, List.append_assoc, List.cons_append, List.nil_append]
  congr 2
  omega
theorem mark_up (l : List Int) (hl : l.length ≤ 2000000) (n : Int) (h0 : 0 ≤ n) (h1 : n ≤ 100000000) : ∃ K, ∀ k, K ≤ k → laws_markInt64S.f k l n = some (n + l.length, up n l.length) := by
 refine ⟨l.length + 2, fun k hk => ?_⟩
 unfold laws_markInt64S.f
 have := mark_loop l.length k 0 l n (by omega) (by omega) h0 (by omega) (by omega)
 simpa using this
theorem up_get : ∀ (d i : Nat) (n : Int) (h : i < d), (up n d)[i]'(by rw [up_len]; exact h) = n + i
 | d + 1, 0, n, _ => by simp [up]
 | d + 1, i + 1, n, h => by simp only [up, List.getElem_cons_succ]; rw [up_get d i (n + 1) (by omega)]; omega
theorem held_loop (m : Nat) (n0 : Int) (hm : m ≤ 1000000000) (h0 : 0 ≤ n0) (hb : n0 ≤ 1000000000) (d : Nat) : ∀ (k i : Nat), i + d = m → d < k → laws_heldInt64S.l0 k (up n0 m) (n0 + i) (i : Int) = some (n0 + m) := by
 induction d with
 | zero =>
  intro k i h1 hk
  obtain ⟨k, rfl⟩ : ∃ m, k = m + 1 := ⟨k - 1, by omega⟩
  simp only [laws_heldInt64S.l0]
  rw [if_neg (by rw [up_len]; omega)]
  congr 2; omega
 | succ d ih =>
  intro k i h1 hk
  obtain ⟨k, rfl⟩ : ∃ m, k = m + 1 := ⟨k - 1, by omega⟩
  simp only [laws_heldInt64S.l0]
  have hw : wrap64 (n0 + i + 1) = n0 + ((i + 1 : Nat) : Int) := by rw [w64 (by omega) (by omega)]; omega
  rw [if_pos (by rw [up_len]; omega), if_pos (by omega), rd_lt _ _ (by rw [up_len]; omega), up_get _ _ _ (by omega), if_pos rfl, wn (by omega), hw]
  exact ih k (i + 1) (by omega) (by omega)
theorem held_up (m : Nat) (hm : m ≤ 2000000) (n : Int) (h0 : 0 ≤ n) (h1 : n ≤ 100000000) : ∃ K, ∀ k, K ≤ k → laws_heldInt64S.f k (up n m) n = some (n + m) := by
 refine ⟨m + 2, fun k hk => ?_⟩
 unfold laws_heldInt64S.f
 have := held_loop m n (by omega) h0 (by omega) m k 0 (by omega) (by omega)
 simpa using this
end Go.Proofs.Ytnigpjcnffgfgaa.H
namespace Go.Proofs.Ytnigpjcnffgfgaa.Num
open Go.RowKit
def cg (p a b : Int) : Prop := p ∣ a - b
theorem cg.symm {p a b : Int} : cg p a b → cg p b a := fun ⟨k, h⟩ => ⟨-k, by rw [Int.mul_neg, ← h]; omega⟩
theorem cg.trans {p a b c : Int} : cg p a b → cg p b c → cg p a c := fun ⟨k, h⟩ ⟨m, h'⟩ => ⟨k + m, by rw [Int.mul_add, ← h, ← h']; omega⟩
end Go.Proofs.Ytnigpjcnffgfgaa.Num
namespace Go.Proofs.Ytnigpjcnffgfgaa.H
open Go.RowKit Go.Proofs.YtnigpjcnffgfgaaW.PrintWords Go.Proofs.YtnigpjcnffgfgaaW.PrintLast Go.Proofs.YtnigpjcnffgfgaaW.PrintMore Go.Proofs.Ytnigpjcnffgfgaa.Num
theorem spec_prime (p : Int) : Ev (fun k => spec_l01Prime.f k p) (primeB p) := by
 refine ⟨200, fun k hk => ?_⟩
 unfold spec_l01Prime.f spec_l01In.f
 by_cases h1 : p ≥ 2
 ·
  by_cases h2 : p ≤ 10007
  ·
   obtain ⟨b, hb, hiff⟩ := prime_loop spec_l01Prime.l0 p h1 h2 (fun k i => rfl) 102 k 2 (by omega) (by omega) (by omega) (by omega)
   simp only [if_pos h1, Option.bind_some, decide_eq_true h2, if_true, hb, primeB_loop h1 h2 hiff]
  ·
   simp [if_pos h1, decide_eq_false h2, primeB_hi h2]
 ·
  simp [if_neg h1, primeB_lo h1]
theorem impl_prime (p : Int) : Ev (fun k => impl_IsPrime.f k p) (primeB p) := by
 refine ⟨200, fun k hk => ?_⟩
 unfold impl_IsPrime.f impl_within.f
 by_cases h1 : 2 ≤ p
 ·
  by_cases h2 : p ≤ 10007
  ·
   obtain ⟨b, hb, hiff⟩ := prime_loop impl_IsPrime.l0 p h1 h2 (fun k i => rfl) 102 k 2 (by omega) (by omega) (by omega) (by omega)
   simp only [if_pos h1, Option.bind_some, decide_eq_true h2, if_true, hb, primeB_loop h1 h2 hiff]
  ·
   simp [if_pos h1, decide_eq_false h2, primeB_hi h2]
 ·
  simp [if_neg h1, primeB_lo h1]
theorem impl_mod {p x : Int} (hp : 0 < p) (hp2 : p ≤ 1000000000) : impl_field_mod.f p x = some (x % p) := by
 unfold impl_field_mod.f; rw [if_neg (by omega), md hp hp2]
theorem impl_power {p x e : Int} (hp : 2 ≤ p) (hp2 : p ≤ 10007) (x0 : 0 ≤ x) (x1 : x < p) (e0 : 0 ≤ e) (e1 : e ≤ 1000000000) : Ev (fun k => impl_field_power.f k p x e) (x ^ e.toNat % p) := by
 refine ⟨e.toNat + 2, fun k hk => ?_⟩
 simp only [impl_field_power.f, impl_mod (show 0 < p by omega) (show p ≤ 1000000000 by omega), Option.bind_some]
 rw [Int.emod_eq_of_lt (a := 1) (by omega) (by omega)]
 rw [pow_loop (fun k p e out x => impl_field_power.l0 k p x e out) (fun p out => some out) (fun y => y % p) p hp (by omega) (fun y hy => rfl) (fun k e out x => by
   simp only [impl_field_power.l0, impl_field_mul.f, impl_mod (show 0 < p by omega) (show p ≤ 1000000000 by omega), Option.bind_some]) (e.toNat + 1) k e 1 x (by omega) (by omega) e0 e1 (by omega) (by omega) x0 x1]
 rw [Int.one_mul]
theorem hasB_iff {p x : Int} : hasB p x = true ↔ 0 ≤ x ∧ x < p := by unfold hasB; simp
structure Po (p : Int) (l : List Int) : Prop where
 len : l.length ≤ 25
 el : ∀ x ∈ l, 0 ≤ x ∧ x < p
 last : l.length = 0 ∨ rd l ((l.length : Int) - 1) ≠ 0
theorem own_some (l : List Int) (h : l.length < 17592186044416) : spec_l01Own.f l = some l := by
 simp [spec_l01Own.f, h]
def InR (p : Int) (l : List Int) : Prop := ∀ x ∈ l, 0 ≤ x ∧ x < p
theorem InR.get {p : Int} {l : List Int} (h : InR p l) (hp : 0 < p) (i : Nat) : 0 ≤ l.getD i 0 ∧ l.getD i 0 < p := by
 rcases Nat.lt_or_ge i l.length with hi | hi
 ·
  rw [List.getD_eq_getElem?_getD, List.getElem?_eq_getElem hi]; exact h _ (List.getElem_mem hi)
 ·
  rw [List.getD_eq_getElem?_getD, List.getElem?_eq_none hi]; exact ⟨Int.le_refl _, hp⟩
theorem InR.set {p : Int} {l : List Int} (h : InR p l) (i : Nat) {x : Int} (hx : 0 ≤ x ∧ x < p) : InR p (l.set i x) := by
 intro y hy
 rcases List.mem_or_eq_of_mem_set hy with h' | h'
 ·
  exact h y h'
 ·
  rw [h']; exact hx
theorem InR.take {p : Int} {l : List Int} (h : InR p l) (n : Nat) : InR p (l.take n) := fun x hx => h x (List.mem_of_mem_take hx)
theorem InR.drop {p : Int} {l : List Int} (h : InR p l) (n : Nat) : InR p (l.drop n) := fun x hx => h x (List.mem_of_mem_drop hx)
theorem Po.inR {p : Int} {l : List Int} (h : Po p l) : InR p l := h.el
theorem in_any (x a b : Int) : spec_l01In.f x a b = some (decide (a ≤ x) && decide (x ≤ b)) := by
 unfold spec_l01In.f; by_cases h : x ≥ a
 ·
  rw [if_pos h, decide_eq_true h, Bool.true_and]
 ·
  rw [if_neg h, decide_eq_false h, Bool.false_and]
theorem in_has {p : Int} (hp : IsP p) (x : Int) : spec_l01In.f x 0 (wrap64 (p - 1)) = some (hasB p x) := by
 rw [in_any, w64 (by have := hp.1; omega) (by have := hp.2.1; omega)]; unfold hasB; congr 2; exact decide_eq_decide.2 (by omega)
theorem _root_.Go.Proofs.Ytnigpjcnffgfgaa.Num.IsP.p2 {p : Int} (h : IsP p) : 2 ≤ p := h.1
theorem _root_.Go.Proofs.Ytnigpjcnffgfgaa.Num.IsP.pm {p : Int} (h : IsP p) : p ≤ 10007 := h.2.1
theorem _root_.Go.Proofs.Ytnigpjcnffgfgaa.Num.IsP.p0 {p : Int} (h : IsP p) : 0 < p := by have := h.1; omega
theorem spec_numbers {p : Int} (hp : IsP p) (l : List Int) (hl : l.length ≤ 1000000000) : Ev (fun k => spec_l02Numbers.f k p l) (l.all (hasB p)) := by
 have loop : ∀ d i, i + d = l.length → Ev (fun k => spec_l02Numbers.l0 k p l (i : Int)) ((l.drop i).all (hasB p)) := by
  intro d
  induction d with
  | zero => intro i h; refine Ev.succ ?_; simp (disch := omega) only [spec_l02Numbers.l0, if_neg, List.drop_of_length_le]; exact Ev.now _
  | succ d ih =>
   intro i h
   have hi := ih (i + 1) (by omega)
   refine Ev.succ ?_
   rw [List.drop_eq_getElem_cons (show i < l.length by omega), List.all_cons]
   simp (disch := omega) only [spec_l02Numbers.l0, if_pos, in_has hp, Option.bind_some, wp1, rd_lt l i (show i < l.length by omega)]
   cases hb : hasB p (l[i]'(by omega)) with
   | true => simp only [if_true, Bool.true_and]; exact hi
   | false => simp only [Bool.false_eq_true, if_false, Bool.false_and]; exact Ev.now _
 have h := loop l.length 0 (by omega)
 simp only [spec_l02Numbers.f]
 exact h
theorem eqM_same (q : Int) (A : List Int) (hA : A.length ≤ 2000000) : Ev (fun k => laws_eqMoments.f k q A q A) true := by
 simp only [laws_eqMoments.f, eq_self, if_true]
 refine Ev.bind (eqI_same A hA) ?_
 simp only [eq_self, if_true]; exact Ev.now _
theorem markM_up (q : Int) (A : List Int) (hA : A.length ≤ 1000000) (n : Int) (h0 : 0 ≤ n) (h1 : n ≤ 10000000) : Ev (fun k => laws_markMoments.f k q A n) (n + A.length, up n A.length) := by
 simp only [laws_markMoments.f]
 exact Ev.bind (mark_up A (by omega) n h0 (by omega)) (Ev.now _)
theorem heldM_up (q : Int) (a : Nat) (ha : a ≤ 1000000) (n : Int) (h0 : 0 ≤ n) (h1 : n ≤ 10000000) : Ev (fun k => laws_heldMoments.f k q (up n a) n) (n + a) := by
 simp only [laws_heldMoments.f]
 refine Ev.bind (held_up a (by omega) n h0 (by omega)) ?_
 simp (disch := omega) only [if_neg]; exact Ev.now _
theorem compact_all (s : List Int) : (Lib.compact s).length = s.length ↔ ∀ j, j < s.length → 0 < j → s.getD j 0 ≠ s.getD (j - 1) 0 := by
 have e : (Lib.compact s).length = s.length ↔ ((List.range s.length).filter (Lib.keeps s.toArray)).length = (List.range s.length).length := by
  unfold Lib.compact Lib.compactUpTo
  rw [List.length_map, List.length_range]
 rw [e, List.length_filter_eq_length_iff]
 constructor
 ·
  intro h j hj h0
  have := h j (List.mem_range.2 hj)
  intro he
  rw [Lib.keeps_neg h0] at this
  ·
   cases this
  ·
   simpa [List.getElem!_eq_getElem?_getD, List.getD_eq_getElem?_getD] using he
 ·
  intro h j hj
  have hj := List.mem_range.1 hj
  rcases Nat.eq_zero_or_pos j with h0 | h0
  ·
   exact Lib.keeps_lt_one _ _ (by omega)
  ·
   exact Lib.keeps_pos (by simpa [List.getElem!_eq_getElem?_getD, List.getD_eq_getElem?_getD] using h j hj h0)
theorem diffB_iff (l : List Int) : diffB l = true ↔ l.Nodup := by
 unfold diffB
 rw [decide_eq_true_eq]
 have hp := List.mergeSort_perm l (fun x y => decide (x ≤ y))
 have hs := List.pairwise_mergeSort (le := fun x y : Int => decide (x ≤ y)) (by intro a b c; simp; omega) (by intro a b; simp; omega) l
 rw [← hp.nodup_iff]
 have hlen := hp.length_eq
 generalize l.mergeSort (fun x y => decide (x ≤ y)) = s at hs hlen ⊢
 rw [← hlen, compact_all]
 have hs' : ∀ i j, i < j → j < s.length → s.getD i 0 ≤ s.getD j 0 := by
  intro i j hij hj
  have := List.pairwise_iff_getElem.1 hs i j (by omega) hj hij
  rw [List.getD_eq_getElem?_getD, List.getD_eq_getElem?_getD, List.getElem?_eq_getElem (by omega), List.getElem?_eq_getElem hj]
  simpa using this
 constructor
 ·
  intro h
  refine List.nodup_iff_pairwise_ne.2 (List.pairwise_iff_getElem.2 fun i j hi hj hij he => ?_)
  have e1 : s.getD i 0 = s.getD j 0 := by
   rw [List.getD_eq_getElem?_getD, List.getD_eq_getElem?_getD, List.getElem?_eq_getElem hi, List.getElem?_eq_getElem hj]
   simpa using he
  have h1 := h j hj (by omega)
  have h2 : s.getD (j - 1) 0 ≤ s.getD j 0 := hs' _ _ (by omega) hj
  rcases Nat.eq_or_lt_of_le (show i ≤ j - 1 by omega) with h3 | h3
  ·
   rw [← h3] at h1; exact h1 e1.symm
  ·
   have h4 := hs' i (j - 1) h3 (by omega)
   omega
 ·
  intro h j hj h0 he
  have := List.pairwise_iff_getElem.1 (List.nodup_iff_pairwise_ne.1 h) (j - 1) j (by omega) hj (by omega)
  rw [List.getD_eq_getElem?_getD, List.getD_eq_getElem?_getD, List.getElem?_eq_getElem hj, List.getElem?_eq_getElem (show j - 1 < s.length by omega)] at he
  exact this (by simpa using he.symm)
def ptB (p : Int) (l : List Int) : Nat → Nat → Bool
 | _, 0 => true
 | i, d + 1 => hasB p (l.getD i 0) && (!((l.take i).any fun y => decide (y = l.getD i 0)) && ptB p l (i + 1) d)
theorem any_take (l : List Int) (c : Int) (i : Nat) (hi : i ≤ l.length) : ((l.take i).any fun y => decide (y = c)) = true ↔ ∃ k, k < i ∧ l.getD k 0 = c := by
 rw [List.any_eq_true]
 constructor
 ·
  rintro ⟨y, hy, hc⟩
  obtain ⟨k, hk, e⟩ := List.getElem_of_mem hy
  rw [List.length_take] at hk
  refine ⟨k, by omega, ?_⟩
  rw [List.getD_eq_getElem?_getD, List.getElem?_eq_getElem (show k < l.length by omega)]
  rw [List.getElem_take] at e
  simpa [e] using hc
 ·
  rintro ⟨k, hk, hc⟩
  refine ⟨l[k]'(by omega), ?_, ?_⟩
  ·
   rw [List.mem_iff_getElem]; exact ⟨k, by rw [List.length_take]; omega, by rw [List.getElem_take]⟩
  ·
   rw [List.getD_eq_getElem?_getD, List.getElem?_eq_getElem (show k < l.length by omega)] at hc
   simpa using hc
theorem ptB_iff (p : Int) (l : List Int) : ∀ d i, i + d = l.length → (ptB p l i d = true ↔ ∀ j, i ≤ j → j < l.length → hasB p (l.getD j 0) = true ∧ ∀ k, k < j → l.getD k 0 ≠ l.getD j 0)
 | 0, i, h => by
  constructor
  ·
   intro _ j h1 h2; omega
  ·
   intro _; rfl
 | d + 1, i, h => by
  have ih := ptB_iff p l d (i + 1) (by omega)
  simp only [ptB, Bool.and_eq_true, Bool.not_eq_true']
  rw [ih]
  have hn : ((l.take i).any fun y => decide (y = l.getD i 0)) = false ↔ ∀ k, k < i → l.getD k 0 ≠ l.getD i 0 := by
   rw [Bool.eq_false_iff, Ne, any_take l _ i (by omega)]
   exact ⟨fun h k hk e => h ⟨k, hk, e⟩, fun h ⟨k, hk, e⟩ => h k hk e⟩
  rw [hn]
  constructor
  ·
   rintro ⟨h1, h2, h3⟩ j hj hl
   rcases Nat.eq_or_lt_of_le hj with rfl | hj
   ·
    exact ⟨h1, h2⟩
   ·
    exact h3 j hj hl
  ·
   intro H
   exact ⟨(H i (by omega) (by omega)).1, (H i (by omega) (by omega)).2, fun j hj hl => H j (by omega) hl⟩
theorem ptB_all (p : Int) (l : List Int) : ptB p l 0 l.length = (l.all (hasB p) && diffB l) := by
 rw [Bool.eq_iff_iff, Bool.and_eq_true, ptB_iff p l l.length 0 (by omega), diffB_iff, List.all_eq_true, List.nodup_iff_pairwise_ne, List.pairwise_iff_getElem]
 have g : ∀ i (h : i < l.length), l.getD i 0 = l[i] := fun i h => by rw [List.getD_eq_getElem?_getD, List.getElem?_eq_getElem h]; rfl
 constructor
 ·
  intro H
  refine ⟨fun x hx => ?_, fun i j hi hj hij => ?_⟩
  ·
   obtain ⟨j, hj, rfl⟩ := List.getElem_of_mem hx
   have := (H j (Nat.zero_le _) hj).1
   rwa [g j hj] at this
  ·
   have := (H j (Nat.zero_le _) hj).2 i hij
   rwa [g i hi, g j hj] at this
 ·
  rintro ⟨h1, h2⟩ j _ hj
  refine ⟨by rw [g j hj]; exact h1 _ (List.getElem_mem hj), fun k hk => ?_⟩
  rw [g j hj, g k (by omega)]
  exact h2 k j (by omega) hj hk
noncomputable def ndB (p : Int) (xs ys : List Int) (m : Int) : Bool := primeB p && (decide ((xs.length : Int) ≤ m) && (decide (ys.length = xs.length) && (xs.all (hasB p) && (ys.all (hasB p) && diffB xs))))
theorem impl_nodes (p : Int) (xs ys : List Int) (m : Int) (hm : m ≤ 1000) : Ev (fun k => impl_areNodes.f k p xs ys m) (ndB p xs ys m) := by
 simp only [impl_areNodes.f]
 refine Ev.bind (impl_prime p) ?_
 unfold ndB
 cases hp : primeB p with
 | false => simp only [Bool.false_eq_true, if_false, Bool.false_and]; exact Ev.now _
 | true =>
  by_cases c1 : (xs.length : Int) ≤ m
  ·
   by_cases c2 : ys.length = xs.length
   ·
    simp only [if_true, if_pos c1, if_pos (show (ys.length : Int) = xs.length by omega), decide_eq_true c1, decide_eq_true c2, Bool.true_and, impl_areAll_has.f, Option.bind_some]
    cases xs.all (hasB p) with
    | false => simp only [Bool.false_eq_true, if_false, Bool.false_and]; exact Ev.now _
    | true =>
     cases ys.all (hasB p) with
     | false => simp only [if_true, Bool.false_eq_true, if_false, Bool.false_and, Bool.and_false]; exact Ev.now _
     | true =>
      simp only [if_true, impl_areDifferent.f, if_pos (show xs.length ≤ 1000000 by omega), Option.bind_some, Bool.true_and]; exact Ev.now _
   ·
    simp only [if_true, if_pos c1, if_neg (show ¬ (ys.length : Int) = xs.length by omega), decide_eq_true c1, decide_eq_false c2, Bool.false_and, Bool.and_false]; exact Ev.now _
  ·
   simp only [if_true, if_neg c1, decide_eq_false c1, Bool.false_and, Bool.and_false]; exact Ev.now _
theorem ndB_iff {p m : Int} {xs ys : List Int} (h : ndB p xs ys m = true) : IsP p ∧ (xs.length : Int) ≤ m ∧ ys.length = xs.length ∧ InR p xs ∧ InR p ys := by
 simp only [ndB, Bool.and_eq_true, decide_eq_true_eq, List.all_eq_true] at h
 exact ⟨primeB_iff.1 h.1, h.2.1, h.2.2.1, fun x hx => hasB_iff.1 (h.2.2.2.1 x hx), fun x hx => hasB_iff.1 (h.2.2.2.2.1 x hx)⟩
theorem mix_get (A B : List Int) (i : Nat) (hl : B.length = A.length) (h : i < A.length) : (A.take i ++ B.drop i).getD i 0 = B.getD i 0 := by
 rw [List.getD_eq_getElem?_getD, List.getElem?_append_right (by rw [List.length_take]; omega), List.length_take, List.getElem?_drop, List.getD_eq_getElem?_getD]
 rw [show i + (i - min i A.length) = i by omega]
theorem mix_set (A B : List Int) (i : Nat) (hl : B.length = A.length) (h : i < A.length) : (A.take i ++ B.drop i).set i (A.getD i 0) = A.take (i + 1) ++ B.drop (i + 1) := by
 have hs : A[i]? = some (A.getD i 0) := by rw [List.getD_eq_getElem?_getD, List.getElem?_eq_getElem h]; rfl
 rw [List.take_add_one, hs, List.drop_eq_getElem_cons (show i < B.length by omega), List.set_append_right _ _ (by rw [List.length_take]; omega), List.length_take]
 rw [show i - min i A.length = 0 by omega]
 simp only [List.set_cons_zero, Option.toList_some, List.append_assoc, List.singleton_append]
theorem mix_len (A B : List Int) (i : Nat) (hl : B.length = A.length) (h : i ≤ A.length) : (A.take i ++ B.drop i).length = A.length := by
 rw [List.length_append, List.length_take, List.length_drop]; omega
def ptD (l : List Int) : Nat → Nat → Bool
 | _, 0 => true
 | i, d + 1 => !((l.take i).any fun y => decide (y = l.getD i 0)) && ptD l (i + 1) d
theorem ptD_eq (p : Int) (l : List Int) (h : l.all (hasB p) = true) : ∀ d i, i + d = l.length → ptB p l i d = ptD l i d
 | 0, i, _ => rfl
 | d + 1, i, hi => by
  simp only [ptB, ptD]
  rw [ptD_eq p l h d (i + 1) (by omega)]
  have hm : l.getD i 0 ∈ l := by
   rw [List.getD_eq_getElem?_getD, List.getElem?_eq_getElem (show i < l.length by omega)]
   exact List.getElem_mem _
  rw [List.all_eq_true.1 h _ hm, Bool.true_and]
theorem spec_differ {p : Int} (l : List Int) (hl : l.length ≤ 1000000000) (h : l.all (hasB p) = true) : Ev (fun k => spec_l02Nodes.l0 k l 0) (diffB l) := by
 have e : diffB l = ptD l 0 l.length := by
  rw [← ptD_eq p l h l.length 0 (by omega), ptB_all, h, Bool.true_and]
 rw [e]
 have loop : ∀ d i, i + d = l.length → Ev (fun k => spec_l02Nodes.l0 k l (i : Int)) (ptD l i d) := by
  intro d
  induction d with
  | zero => intro i h; refine Ev.succ ?_; simp (disch := omega) only [spec_l02Nodes.l0, if_neg, ptD]; exact Ev.now _
  | succ d ih =>
   intro i h
   have hi := ih (i + 1) (by omega)
   refine Ev.succ ?_
   simp (disch := omega) only [spec_l02Nodes.l0, if_pos]
   simp only [ptD]
   have inner : ∀ q k, k + q = i → Ev (fun r => spec_l02Nodes.l1 r l (i : Int) (k : Int)) (!(((l.take i).drop k).any fun y => decide (y = l.getD i 0)) && ptD l (i + 1) d) := by
    intro q
    induction q with
    | zero =>
     intro k hk
     refine Ev.succ ?_
     rw [List.drop_of_length_le (by rw [List.length_take]; omega)]
     simp (disch := omega) only [spec_l02Nodes.l1, if_neg, List.any_nil, Bool.not_false, Bool.true_and, wp1]
     exact hi
    | succ q ihq =>
     intro k hk
     have hq := ihq (k + 1) (by omega)
     refine Ev.succ ?_
     have ed : (l.take i).drop k = l.getD k 0 :: (l.take i).drop (k + 1) := by
      rw [List.drop_eq_getElem_cons (by rw [List.length_take]; omega), List.getElem_take, List.getD_eq_getElem?_getD, List.getElem?_eq_getElem (show k < l.length by omega)]
      rfl
     rw [ed, List.any_cons]
     simp (disch := omega) only [spec_l02Nodes.l1, if_pos, rd_n, wp1]
     by_cases hc : l.getD k 0 = l.getD i 0
     ·
      simp only [if_pos hc.symm, decide_eq_true hc, Bool.true_or, Bool.not_true, Bool.false_and]; exact Ev.now _
     ·
      simp only [if_neg (fun h : l.getD i 0 = l.getD k 0 => hc h.symm), decide_eq_false hc, Bool.false_or]; exact hq
   have := inner i 0 (by omega)
   simpa using this
 exact loop l.length 0 (by omega)
theorem spec_nodes (p : Int) (xs ys : List Int) (hx : xs.length ≤ 1000000000) (hy : ys.length ≤ 1000000000) : Ev (fun k => spec_l02Nodes.f k p xs ys) (ndB p xs ys 12) := by
 have no : Ev (fun k => spec_l02Nodes.j0 k xs true) false := by refine Ev.succ ?_; simp only [spec_l02Nodes.j0, if_true]; exact Ev.now _
 simp only [spec_l02Nodes.f]
 refine Ev.bind (spec_prime p) ?_
 unfold ndB
 cases hp : primeB p with
 | false => simp only [Bool.false_eq_true, if_false, Bool.false_and]; exact no
 | true =>
  simp only [if_true, Bool.true_and]
  by_cases c1 : (xs.length : Int) > 12
  ·
   simp only [if_pos c1, decide_eq_false (show ¬ (xs.length : Int) ≤ 12 by omega), Bool.false_and]; exact no
  ·
   simp only [if_neg c1, decide_eq_true (show (xs.length : Int) ≤ 12 by omega), Bool.true_and]
   by_cases c2 : ys.length = xs.length
   ·
    simp only [if_pos (show (xs.length : Int) = ys.length by omega), decide_eq_true c2, Bool.true_and]
    refine Ev.bind (spec_numbers (primeB_iff.1 hp) xs hx) ?_
    cases ha : xs.all (hasB p) with
    | false => simp only [Bool.false_eq_true, if_false, Bool.false_and]; exact no
    | true =>
     simp only [if_true, Bool.true_and]
     refine Ev.bind (spec_numbers (primeB_iff.1 hp) ys hy) ?_
     cases hb : ys.all (hasB p) with
     | false => simp only [Bool.not_false, Bool.false_and]; exact no
     | true =>
      simp only [Bool.not_true, Bool.true_and]
      refine Ev.succ ?_
      simp only [spec_l02Nodes.j0, Bool.false_eq_true, if_false]
      exact spec_differ xs hx ha
   ·
    simp only [if_neg (show ¬ (xs.length : Int) = ys.length by omega), decide_eq_false c2, Bool.false_and]; exact no
def mnV (p : Int) (xs ws : List Int) (k : Nat) : Int → Nat → Nat → Int
 | acc, _, 0 => acc
 | acc, i, d + 1 => mnV p xs ws k ((acc + ws.getD i 0 * xs.getD i 0 ^ k) % p) (i + 1) d
def mnL (p : Int) (xs ws : List Int) : Nat → List Int
 | 0 => []
 | m + 1 => mnL p xs ws m ++ [mnV p xs ws m 0 0 xs.length]
theorem mnL_len (p : Int) (xs ws : List Int) : ∀ m, (mnL p xs ws m).length = m
 | 0 => rfl
 | m + 1 => by simp [mnL, mnL_len p xs ws m]
theorem impl_momentsOf {p : Int} {xs ws : List Int} {n : Nat} (hp : IsP p) (rx : InR p xs) (rw_ : InR p ws) (hl : ws.length = xs.length) (hx : xs.length ≤ 12) (hn : n ≤ 24) :
  ∀ d k, k + d = n → Ev (fun r => impl_field_momentsOf.l0 r p xs ws (n : Int) (k : Int) p (mnL p xs ws k)) (p, mnL p xs ws n) := by
 intro d
 induction d with
 | zero => intro k h; refine Ev.succ ?_; rw [show k = n by omega]; simp (disch := omega) only [impl_field_momentsOf.l0, if_neg]; exact Ev.now _
 | succ d ih =>
  intro k h
  have hk := ih (k + 1) (by omega)
  have hp2 := hp.p2
  have hpm := hp.pm
  refine Ev.succ ?_
  simp (disch := omega) only [impl_field_momentsOf.l0, if_pos]
  have inner : ∀ q i acc, i + q = xs.length → (0 ≤ acc ∧ acc < p) → mnV p xs ws k acc i q = mnV p xs ws k 0 0 xs.length →
    Ev (fun r => impl_field_momentsOf.l1 r p xs ws (k : Int) acc (n : Int) (k : Int) xs (xs.length : Int) (i : Int) p (mnL p xs ws k)) (p, mnL p xs ws n) := by
   intro q
   induction q with
   | zero =>
    intro i acc hi ha he
    refine Ev.succ ?_
    have hlen := mnL_len p xs ws k
    rw [show acc = mnV p xs ws k 0 0 xs.length from he]
    have ql : (mnL p xs ws k).length < 17592186044416 := by omega
    simp (disch := omega) only [impl_field_momentsOf.l1, if_neg, if_pos ql, wp1]
    exact hk
   | succ q ihq =>
    intro i acc hi ha he
    have x0 := rx.get hp.p0 i
    have w0 := rw_.get hp.p0 i
    have hpw := impl_power (x := xs.getD i 0) (e := (k : Int)) hp2 hpm x0.1 x0.2 (by omega) (by omega)
    rw [Int.toNat_natCast] at hpw
    have pb := emod_bd (x := xs.getD i 0 ^ k) hp.p0
    have mm := mul_bd (a := 10007) (b := 10007) w0.1 (by omega) pb.1 (by omega)
    have w1 : wrap64 (ws.getD i 0 * (xs.getD i 0 ^ k % p)) = ws.getD i 0 * (xs.getD i 0 ^ k % p) := w64 (by omega) (by omega)
    have w2 : wrap64 (acc + ws.getD i 0 * (xs.getD i 0 ^ k % p)) = acc + ws.getD i 0 * (xs.getD i 0 ^ k % p) := w64 (by omega) (by omega)
    have q1 : (i : Int) < (xs.length : Int) := by omega
    have q2 : (0 : Int) ≤ (i : Int) := by omega
    have q3 : (i : Int) < (ws.length : Int) := by omega
    refine Ev.succ ?_
    simp only [impl_field_momentsOf.l1, if_pos q1, if_pos q2, if_pos q3, rd_n]
    refine Ev.bind hpw ?_
    simp only [w1, w2, impl_mod hp.p0 (show p ≤ 1000000000 by omega), Option.bind_some, wp1 (show i ≤ 1000000000000 by omega)]
    have e : (acc + ws.getD i 0 * (xs.getD i 0 ^ k % p)) % p = (acc + ws.getD i 0 * xs.getD i 0 ^ k) % p := by
     rw [← ea_r, em_r, ea_r]
    rw [e]
    exact ihq (i + 1) _ (by omega) (emod_bd hp.p0) (by rw [← he]; rfl)
  have h1 := inner xs.length 0 0 (by omega) (by have := hp.p0; omega) rfl
  simpa using h1
def pwL (p : Int) (xs ws : List Int) (k : Nat) : List Int := (List.range xs.length).map fun i => ws.getD i 0 * xs.getD i 0 ^ k % p
theorem pwL_len (p : Int) (xs ws : List Int) (k : Nat) : (pwL p xs ws k).length = xs.length := by simp [pwL]
theorem pwL_get (p : Int) (xs ws : List Int) (k i : Nat) (h : i < xs.length) : (pwL p xs ws k).getD i 0 = ws.getD i 0 * xs.getD i 0 ^ k % p := by
 unfold pwL
 rw [List.getD_eq_getElem?_getD, List.getElem?_map, List.getElem?_range h]; rfl
theorem pwL_0 {p : Int} (hp : 0 < p) {xs ws : List Int} (rw_ : InR p ws) (hl : ws.length = xs.length) : pwL p xs ws 0 = ws := by
 refine List.ext_getElem (by rw [pwL_len, hl]) fun i h1 h2 => ?_
 have hi : i < xs.length := by omega
 have h := pwL_get p xs ws 0 i hi
 rw [List.getD_eq_getElem?_getD, List.getElem?_eq_getElem h1] at h
 have w := rw_.get hp i
 rw [Int.pow_zero, Int.mul_one, Int.emod_eq_of_lt w.1 w.2, List.getD_eq_getElem?_getD, List.getElem?_eq_getElem h2] at h
 simpa using h
theorem spec_momentsOf {p : Int} {xs ws : List Int} {n : Nat} (hp : IsP p) (rx : InR p xs) (rw_ : InR p ws) (hl : ws.length = xs.length) (hx : xs.length ≤ 12) (hn : n ≤ 24) :
  ∀ d k, k + d = n → Ev (fun r => spec_l02Of.l0 r p xs (n : Int) (pwL p xs ws k) (k : Int) p (mnL p xs ws k)) (p, mnL p xs ws n) := by
 intro d
 induction d with
 | zero => intro k h; refine Ev.succ ?_; rw [show k = n by omega]; simp (disch := omega) only [spec_l02Of.l0, if_neg]; exact Ev.now _
 | succ d ih =>
  intro k h
  have hk := ih (k + 1) (by omega)
  have hp2 := hp.p2
  have hpm := hp.pm
  refine Ev.succ ?_
  simp (disch := omega) only [spec_l02Of.l0, if_pos]
  have inner : ∀ q i acc, i + q = xs.length → (0 ≤ acc ∧ acc < p) → mnV p xs ws k acc i q = mnV p xs ws k 0 0 xs.length →
    Ev (fun r => spec_l02Of.l1 r p xs (n : Int) ((pwL p xs ws (k + 1)).take i ++ (pwL p xs ws k).drop i) (k : Int) acc (i : Int) p (mnL p xs ws k)) (p, mnL p xs ws n) := by
   intro q
   induction q with
   | zero =>
    intro i acc hi ha he
    refine Ev.succ ?_
    have hlen := mnL_len p xs ws k
    rw [show acc = mnV p xs ws k 0 0 xs.length from he, List.drop_of_length_le (by rw [pwL_len]; omega), List.append_nil, List.take_of_length_le (by rw [pwL_len]; omega)]
    have ql : (mnL p xs ws k).length < 17592186044416 := by omega
    simp (disch := omega) only [spec_l02Of.l1, if_neg, if_pos ql, wp1]
    exact hk
   | succ q ihq =>
    intro i acc hi ha he
    have hi' : i < xs.length := by omega
    have x0 := rx.get hp.p0 i
    have hl1 := pwL_len p xs ws (k + 1)
    have hl0 := pwL_len p xs ws k
    have eg : ((pwL p xs ws (k + 1)).take i ++ (pwL p xs ws k).drop i).getD i 0 = ws.getD i 0 * xs.getD i 0 ^ k % p := by
     rw [mix_get _ _ _ (by omega) (by omega), pwL_get p xs ws k i hi']
    have es : ((pwL p xs ws (k + 1)).take i ++ (pwL p xs ws k).drop i).set i (ws.getD i 0 * xs.getD i 0 ^ (k + 1) % p) = (pwL p xs ws (k + 1)).take (i + 1) ++ (pwL p xs ws k).drop (i + 1) := by
     rw [← pwL_get p xs ws (k + 1) i hi']
     exact mix_set _ _ _ (by omega) (by omega)
    have em := mix_len (pwL p xs ws (k + 1)) (pwL p xs ws k) i (by omega) (by omega)
    have pb := emod_bd (x := ws.getD i 0 * xs.getD i 0 ^ k) hp.p0
    have mm := mul_bd (a := 10007) (b := 10007) pb.1 (by omega) x0.1 (by omega)
    have w1 : wrap64 (ws.getD i 0 * xs.getD i 0 ^ k % p * xs.getD i 0) = ws.getD i 0 * xs.getD i 0 ^ k % p * xs.getD i 0 := w64 (by omega) (by omega)
    have w2 : wrap64 (acc + ws.getD i 0 * xs.getD i 0 ^ k % p) = acc + ws.getD i 0 * xs.getD i 0 ^ k % p := w64 (by omega) (by omega)
    have q1 : (i : Int) < (xs.length : Int) := by omega
    have q2 : (0 : Int) ≤ (i : Int) := by omega
    have q3 : (i : Int) < (((pwL p xs ws (k + 1)).take i ++ (pwL p xs ws k).drop i).length : Int) := by omega
    refine Ev.succ ?_
    simp only [spec_l02Of.l1, if_pos q1, if_pos q2, if_pos q3, rd_n, eg, if_neg (show ¬ p = 0 by omega), w1, w2, Int.toNat_natCast, wp1 (show i ≤ 1000000000000 by omega), tmod_nn mm.1, tmod_nn (show 0 ≤ acc + ws.getD i 0 * xs.getD i 0 ^ k % p by omega)]
    have e1 : ws.getD i 0 * xs.getD i 0 ^ k % p * xs.getD i 0 % p = ws.getD i 0 * xs.getD i 0 ^ (k + 1) % p := by
     rw [em_l, Int.pow_succ, Int.mul_assoc]
    rw [e1, es, ea_r]
    exact ihq (i + 1) _ (by omega) (emod_bd hp.p0) (by rw [← he]; rfl)
  have h1 := inner xs.length 0 0 (by omega) (by have := hp.p0; omega) rfl
  simpa using h1
def ro (rows : List (List Int)) (i : Nat) : List Int := rows.getD i []
theorem ro_set (rows : List (List Int)) (b i : Nat) (x : List Int) (h : b < rows.length) : ro (rows.set b x) i = if i = b then x else ro rows i := by
 unfold ro
 rw [List.getD_eq_getElem?_getD, List.getD_eq_getElem?_getD]
 by_cases e : i = b
 ·
  subst e; rw [if_pos rfl, List.getElem?_set_self h]; rfl
 ·
  rw [if_neg e, List.getElem?_set_ne (fun h => e h.symm)]
structure Sq (p : Int) (n : Nat) (rows : List (List Int)) : Prop where
 len : rows.length = n
 row : ∀ i, i < n → (ro rows i).length = n
 inR : ∀ i, i < n → InR p (ro rows i)
theorem Sq.set {p : Int} {n : Nat} {rows : List (List Int)} (h : Sq p n rows) {b : Nat} (hb : b < n) {x : List Int} (hx : x.length = n) (hr : InR p x) : Sq p n (rows.set b x) := by
 refine ⟨by rw [List.length_set, h.len], fun i hi => ?_, fun i hi => ?_⟩
 ·
  rw [ro_set _ _ _ _ (by rw [h.len]; exact hb)]
  split
  ·
   exact hx
  ·
   exact h.row i hi
 ·
  rw [ro_set _ _ _ _ (by rw [h.len]; exact hb)]
  split
  ·
   exact hr
  ·
   exact h.inR i hi
def ln (a b : Int) : Nat → Int := fun t => if t = 0 then a else if t = 1 then b else 0
end Go.Proofs.Ytnigpjcnffgfgaa.H
