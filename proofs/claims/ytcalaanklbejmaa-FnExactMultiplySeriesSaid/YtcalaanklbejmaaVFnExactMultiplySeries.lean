/- Plain laws that the claim of FnExactMultiplySeries reaches: numbers modulo a prime, lists, and what the printed functions answer. -/
import Derived.RowKit
import Derived.Test.YtcalaanklbejmaaWWords
import Derived.Test.YtcalaanklbejmaaWMore
import Derived.Test.YtcalaanklbejmaaMabc1
import Derived.Test.YtcalaanklbejmaaMa1
import Derived.Test.YtcalaanklbejmaaMab1
import Derived.Test.YtcalaanklbejmaaMabc2
import Derived.Test.YtcalaanklbejmaaMabc3
import Derived.Test.YtcalaanklbejmaaMa2
set_option linter.unusedVariables false
set_option linter.unusedSimpArgs false
namespace Go.Proofs.Ytcalaanklbejmaa.Num
open Go.RowKit
theorem w64 {x : Int} (h1 : -9223372036854775808 ≤ x) (h2 : x ≤ 9223372036854775807) : wrap64 x = x := by
  unfold wrap64; omega
theorem tmod_nn {a b : Int} (h : 0 ≤ a) : Int.tmod a b = a % b := Int.tmod_eq_emod_of_nonneg h
theorem tmod_lt' {x p : Int} (hp : 0 < p) : Int.tmod x p < p ∧ -p < Int.tmod x p := by
  constructor
  · exact Int.tmod_lt_of_pos x hp
  · have h := Int.tmod_lt_of_pos (-x) hp
    rw [Int.neg_tmod] at h
    omega
/-- the program's way to a number of the field -/
theorem md {x p : Int} (hp : 0 < p) (hp2 : p ≤ 1000000000) : Int.tmod (wrap64 (Int.tmod x p + p)) p = x % p := by
  obtain ⟨h1, h2⟩ := tmod_lt' (x := x) hp
  rw [w64 (by omega) (by omega), tmod_nn (by omega), Int.tmod_def]
  have : x - p * x.tdiv p + p = x + p * (1 - x.tdiv p) := by
    rw [Int.mul_sub]; omega
  rw [this, Int.add_mul_emod_self_left]
theorem emod_bd {x p : Int} (hp : 0 < p) : 0 ≤ x % p ∧ x % p < p := ⟨Int.emod_nonneg _ (by omega), Int.emod_lt_of_pos _ hp⟩
theorem mul_bd {x y a b : Int} (hx0 : 0 ≤ x) (hx : x ≤ a) (hy0 : 0 ≤ y) (hy : y ≤ b) : 0 ≤ x * y ∧ x * y ≤ a * b :=
  ⟨Int.mul_nonneg hx0 hy0, Int.mul_le_mul hx hy hy0 (by omega)⟩
/-- what trial division tells -/
def Pr (p : Nat) : Prop := 2 ≤ p ∧ ∀ d, d ∣ p → d = 1 ∨ d = p
theorem Pr.of_trial {p : Nat} (h2 : 2 ≤ p) (h : ∀ d, 2 ≤ d → d * d ≤ p → p % d ≠ 0) : Pr p := by
  refine ⟨h2, fun d hd => ?_⟩
  obtain ⟨e, he⟩ := hd
  have hd0 : 0 < d := by rcases Nat.eq_zero_or_pos d with h0 | h0; (subst h0; simp at he; omega); exact h0
  have he0 : 0 < e := by rcases Nat.eq_zero_or_pos e with h0 | h0; (subst h0; simp at he; omega); exact h0
  rcases Nat.lt_or_ge d 2 with h1 | h1
  · left; omega
  rcases Nat.lt_or_ge e 2 with h3 | h3
  · right
    have : e = 1 := by omega
    subst this; simpa using he.symm
  · exfalso
    rcases Nat.le_total d e with hle | hle
    · refine h d h1 ?_ ?_
      · rw [he]; exact Nat.mul_le_mul_left d hle
      · rw [he]; exact Nat.mul_mod_right d e
    · refine h e h3 ?_ ?_
      · rw [he]; exact Nat.mul_le_mul_right e hle
      · rw [he]; exact Nat.mul_mod_left d e
/-- is it a prime of the program's? -/
def IsP (p : Int) : Prop := 2 ≤ p ∧ p ≤ 10007 ∧ Pr p.toNat
open Classical in
/-- the same as a bool -/
noncomputable def primeB (p : Int) : Bool := decide (IsP p)
theorem primeB_iff {p : Int} : primeB p = true ↔ IsP p := by
  unfold primeB; exact @decide_eq_true_iff _ (Classical.propDecidable _)
theorem prime_loop (l : Nat → Int → Int → Option Bool) (p : Int) (hp : 2 ≤ p) (hp2 : p ≤ 10007)
    (hl : ∀ k i, l (k + 1) p i = if wrap64 (i * i) ≤ p then (if i = 0 then none else (if Int.tmod p i = 0 then some false else l k p (wrap64 (i + 1)))) else some true)
    (d : Nat) : ∀ (k : Nat) (i : Int), 2 ≤ i → i ≤ 101 → 101 - i < d → d < k →
      ∃ b, l k p i = some b ∧ (b = true ↔ ∀ j : Int, i ≤ j → j * j ≤ p → p % j ≠ 0) := by
  induction d with
  | zero => intro k i h1 h2 h3; omega
  | succ d ih =>
    intro k i h1 h2 h3 hk
    obtain ⟨k, rfl⟩ : ∃ m, k = m + 1 := ⟨k - 1, by omega⟩
    rw [hl]
    have hb := mul_bd (a := 101) (b := 101) (x := i) (y := i) (by omega) h2 (by omega) h2
    rw [w64 (by omega) (by omega), w64 (x := i + 1) (by omega) (by omega)]
    by_cases hle : i * i ≤ p
    · have hi : i ≤ 100 := by
        rcases Int.lt_or_le 100 i with h | h
        · have := Int.mul_le_mul (a := 101) (b := 101) (c := i) (d := i) (by omega) (by omega) (by omega) (by omega); omega
        · exact h
      rw [if_pos hle, if_neg (by omega), tmod_nn (by omega)]
      by_cases hd : p % i = 0
      · rw [if_pos hd]
        exact ⟨false, rfl, by simp; exact ⟨i, Int.le_refl _, hle, hd⟩⟩
      · rw [if_neg hd]
        obtain ⟨b, hb1, hb2⟩ := ih k (i + 1) (by omega) (by omega) (by omega) (by omega)
        refine ⟨b, hb1, hb2.trans ⟨fun h j hj hjj => ?_, fun h j hj hjj => h j (by omega) hjj⟩⟩
        by_cases e : j = i
        · subst e; exact hd
        · exact h j (by omega) hjj
    · rw [if_neg hle]
      refine ⟨true, rfl, by simp; intro j hj hjj; exfalso; apply hle; exact Int.le_trans (Int.mul_le_mul hj hj (by omega) (by omega)) hjj⟩
theorem trial_iff {p : Int} (hp : 2 ≤ p) : (∀ j : Int, 2 ≤ j → j * j ≤ p → p % j ≠ 0) ↔ Pr p.toNat := by
  constructor
  · intro h
    refine Pr.of_trial (by omega) fun d hd hdd h0 => ?_
    refine h d (by omega) ?_ ?_
    · have : ((d * d : Nat) : Int) ≤ p := by omega
      simpa using this
    · have : ((p.toNat % d : Nat) : Int) = 0 := by rw [h0]; rfl
      rw [Int.natCast_emod, Int.toNat_of_nonneg (by omega)] at this
      exact this
  · intro h j hj hjj h0
    obtain ⟨d, rfl⟩ : ∃ d : Nat, j = d := ⟨j.toNat, by omega⟩
    obtain ⟨n, rfl⟩ : ∃ n : Nat, p = n := ⟨p.toNat, by omega⟩
    simp only [Int.toNat_natCast] at h
    have hdv : d ∣ n := by
      apply Nat.dvd_of_mod_eq_zero
      have : ((n % d : Nat) : Int) = 0 := by rw [Int.natCast_emod]; exact h0
      omega
    have hn : d * d ≤ n := by
      have : ((d * d : Nat) : Int) ≤ n := by simpa using hjj
      omega
    rcases h.2 d hdv with e | e
    · omega
    · subst e
      have : d * 2 ≤ d * d := Nat.mul_le_mul_left d (by omega)
      omega
theorem primeB_loop {p : Int} {b : Bool} (h1 : 2 ≤ p) (h2 : p ≤ 10007) (h : b = true ↔ ∀ j : Int, 2 ≤ j → j * j ≤ p → p % j ≠ 0) : b = primeB p := by
  rw [Bool.eq_iff_iff, primeB_iff, h, trial_iff h1]
  exact ⟨fun h => ⟨h1, h2, h⟩, fun h => h.2.2⟩
theorem primeB_lo {p : Int} (h : ¬ 2 ≤ p) : primeB p = false := by
  rw [Bool.eq_false_iff]; intro e; exact h (primeB_iff.1 e).1
theorem primeB_hi {p : Int} (h : ¬ p ≤ 10007) : primeB p = false := by
  rw [Bool.eq_false_iff]; intro e; exact h (primeB_iff.1 e).2.1
end Go.Proofs.Ytcalaanklbejmaa.Num
namespace Go.Proofs.Ytcalaanklbejmaa.H
open Go.RowKit Go.Proofs.YtcalaanklbejmaaW.PrintWords Go.Proofs.YtcalaanklbejmaaW.PrintLast Go.Proofs.YtcalaanklbejmaaW.PrintMore Go.Proofs.Ytcalaanklbejmaa.Num
theorem Ev.succ {α : Type} {g : Nat → Option α} {r : α} (h : Ev (fun k => g (k + 1)) r) : Ev g r := by
  obtain ⟨K, h⟩ := h
  refine ⟨K + 1, fun k hk => ?_⟩
  obtain ⟨m, rfl⟩ : ∃ m, k = m + 1 := ⟨k - 1, by omega⟩
  exact h m (by omega)
theorem wp1 {i : Nat} (h : i ≤ 1000000000000) : wrap64 ((i : Int) + 1) = ((i + 1 : Nat) : Int) := by rw [w64 (by omega) (by omega)]; omega
theorem rd_n (l : List Int) (i : Nat) : rd l (i : Int) = l.getD i 0 := by simp [rd]
theorem rd_lt (l : List Int) (i : Nat) (h : i < l.length) : rd l (i : Int) = l[i] := by simp [rd, h]
theorem wn {i : Nat} (h : i ≤ 1000000000000) : wrap64 ((i : Int) + 1) = ((i + 1 : Nat) : Int) := by rw [w64 (by omega) (by omega)]; omega
theorem toI_loop (l : List Int) (hl : l.length ≤ 1000000000) (d : Nat) : ∀ (k i : Nat) (acc : List Int), i + d = l.length → acc.length = l.length → acc.take i = l.take i → d < k → laws_toInt64S.l0 k l acc (i : Int) = some l := by
  induction d with
  | zero =>
    intro k i acc h1 h2 h3 hk
    obtain ⟨k, rfl⟩ : ∃ m, k = m + 1 := ⟨k - 1, by omega⟩
    simp only [laws_toInt64S.l0]
    rw [if_neg (by omega)]
    have : acc = l := by
      have e1 : acc.take i = acc := List.take_of_length_le (by omega)
      have e2 : l.take i = l := List.take_of_length_le (by omega)
      rw [e1, e2] at h3; exact h3
    rw [this]
  | succ d ih =>
    intro k i acc h1 h2 h3 hk
    obtain ⟨k, rfl⟩ : ∃ m, k = m + 1 := ⟨k - 1, by omega⟩
    simp only [laws_toInt64S.l0]
    rw [if_pos (by omega), if_pos (by omega), if_pos (by omega), wn (by omega), rd_lt l i (by omega), Int.toNat_natCast]
    refine ih k (i + 1) _ (by omega) (by simpa using h2) ?_ (by omega)
    rw [List.take_succ_eq_append_getElem (by simp; omega), List.take_succ_eq_append_getElem (by omega), List.getElem_set_self, List.take_set_of_le (Nat.le_refl i), h3]
theorem toI_same (l : List Int) (hl : l.length ≤ 1048576) : ∃ K, ∀ k, K ≤ k → laws_toInt64S.f k l = some l := by
  refine ⟨l.length + 2, fun k hk => ?_⟩
  unfold laws_toInt64S.f
  rw [if_pos (by omega), if_pos (by omega)]
  exact toI_loop l (by omega) l.length k 0 _ (by omega) (by simp) (by simp) (by omega)
theorem eqI_loop (l : List Int) (hl : l.length ≤ 1000000000) (d : Nat) : ∀ (k i : Nat), i + d = l.length → d < k → laws_eqInt64S.l0 k l l (i : Int) = some true := by
  induction d with
  | zero =>
    intro k i h1 hk
    obtain ⟨k, rfl⟩ : ∃ m, k = m + 1 := ⟨k - 1, by omega⟩
    simp only [laws_eqInt64S.l0]
    rw [if_neg (by omega)]
  | succ d ih =>
    intro k i h1 hk
    obtain ⟨k, rfl⟩ : ∃ m, k = m + 1 := ⟨k - 1, by omega⟩
    simp only [laws_eqInt64S.l0]
    rw [if_pos (by omega), if_pos (by omega), if_pos (by omega), if_pos trivial, wn (by omega)]
    exact ih k (i + 1) (by omega) (by omega)
theorem eqI_same (l : List Int) (hl : l.length ≤ 2000000) : ∃ K, ∀ k, K ≤ k → laws_eqInt64S.f k l l = some true := by
  refine ⟨l.length + 2, fun k hk => ?_⟩
  unfold laws_eqInt64S.f
  rw [if_pos rfl]
  exact eqI_loop l (by omega) l.length k 0 (by omega) (by omega)
/-- n, n + 1, .. : d of them -/
def up (n : Int) : Nat → List Int
  | 0 => []
  | d + 1 => n :: up (n + 1) d
theorem up_len : ∀ (d : Nat) (n : Int), (up n d).length = d
  | 0, _ => rfl
  | d + 1, n => by simp [up, up_len d]
theorem mark_loop (d : Nat) : ∀ (k i : Nat) (l : List Int) (n : Int), i + d = l.length → l.length ≤ 1000000000 → 0 ≤ n → n + d ≤ 1000000000000 → d < k → laws_markInt64S.l0 k l n (i : Int) = some (n + d, l.take i ++ up n d) := by
  induction d with
  | zero =>
    intro k i l n h1 h2 h3 h4 hk
    obtain ⟨k, rfl⟩ : ∃ m, k = m + 1 := ⟨k - 1, by omega⟩
    simp only [laws_markInt64S.l0]
    rw [if_neg (by omega), List.take_of_length_le (by omega)]
    simp [up]
  | succ d ih =>
    intro k i l n h1 h2 h3 h4 hk
    obtain ⟨k, rfl⟩ : ∃ m, k = m + 1 := ⟨k - 1, by omega⟩
    simp only [laws_markInt64S.l0]
    have hw : wrap64 (n + 1) = n + 1 := w64 (by omega) (by omega)
    rw [if_pos (by omega), if_pos (by omega), wn (by omega), Int.toNat_natCast, hw]
    rw [ih k (i + 1) _ (n + 1) (by simp; omega) (by simpa using h2) (by omega) (by omega) (by omega)]
    rw [List.take_succ_eq_append_getElem (by simp; omega), List.getElem_set_self, List.take_set_of_le (Nat.le_refl i)]
    simp only [up, List.append_assoc, List.cons_append, List.nil_append]
    congr 2
    omega
theorem mark_up (l : List Int) (hl : l.length ≤ 2000000) (n : Int) (h0 : 0 ≤ n) (h1 : n ≤ 100000000) : ∃ K, ∀ k, K ≤ k → laws_markInt64S.f k l n = some (n + l.length, up n l.length) := by
  refine ⟨l.length + 2, fun k hk => ?_⟩
  unfold laws_markInt64S.f
  have := mark_loop l.length k 0 l n (by omega) (by omega) h0 (by omega) (by omega)
  simpa using this
theorem up_get : ∀ (d i : Nat) (n : Int) (h : i < d), (up n d)[i]'(by rw [up_len]; exact h) = n + i
  | d + 1, 0, n, _ => by simp [up]
  | d + 1, i + 1, n, h => by simp only [up, List.getElem_cons_succ]; rw [up_get d i (n + 1) (by omega)]; omega
theorem held_loop (m : Nat) (n0 : Int) (hm : m ≤ 1000000000) (h0 : 0 ≤ n0) (hb : n0 ≤ 1000000000) (d : Nat) : ∀ (k i : Nat), i + d = m → d < k → laws_heldInt64S.l0 k (up n0 m) (n0 + i) (i : Int) = some (n0 + m) := by
  induction d with
  | zero =>
    intro k i h1 hk
    obtain ⟨k, rfl⟩ : ∃ m, k = m + 1 := ⟨k - 1, by omega⟩
    simp only [laws_heldInt64S.l0]
    rw [if_neg (by rw [up_len]; omega)]
    congr 2; omega
  | succ d ih =>
    intro k i h1 hk
    obtain ⟨k, rfl⟩ : ∃ m, k = m + 1 := ⟨k - 1, by omega⟩
    simp only [laws_heldInt64S.l0]
    have hw : wrap64 (n0 + i + 1) = n0 + ((i + 1 : Nat) : Int) := by rw [w64 (by omega) (by omega)]; omega
    rw [if_pos (by rw [up_len]; omega), if_pos (by omega), rd_lt _ _ (by rw [up_len]; omega), up_get _ _ _ (by omega), if_pos rfl, wn (by omega), hw]
    exact ih k (i + 1) (by omega) (by omega)
theorem held_up (m : Nat) (hm : m ≤ 2000000) (n : Int) (h0 : 0 ≤ n) (h1 : n ≤ 100000000) : ∃ K, ∀ k, K ≤ k → laws_heldInt64S.f k (up n m) n = some (n + m) := by
  refine ⟨m + 2, fun k hk => ?_⟩
  unfold laws_heldInt64S.f
  have := held_loop m n (by omega) h0 (by omega) m k 0 (by omega) (by omega)
  simpa using this
end Go.Proofs.Ytcalaanklbejmaa.H
namespace Go.Proofs.Ytcalaanklbejmaa.Num
open Go.RowKit
def su (f : Nat → Int) : Nat → Int
  | 0 => 0
  | n + 1 => su f n + f n
theorem su_congr {f g : Nat → Int} : ∀ {n : Nat}, (∀ i, i < n → f i = g i) → su f n = su g n
  | 0, _ => rfl
  | n + 1, h => by rw [su, su, su_congr (n := n) (fun i hi => h i (by omega)), h n (by omega)]
theorem su_zero {f : Nat → Int} : ∀ {n : Nat}, (∀ i, i < n → f i = 0) → su f n = 0
  | 0, _ => rfl
  | n + 1, h => by rw [su, su_zero (n := n) (fun i hi => h i (by omega)), h n (by omega)]; rfl
theorem su_split (f : Nat → Int) (m : Nat) : ∀ n, su f (m + n) = su f m + su (fun i => f (m + i)) n
  | 0 => by simp [su]
  | n + 1 => by rw [← Nat.add_assoc, su, su_split f m n, su]; omega
theorem su_head (f : Nat → Int) (n : Nat) : su f (n + 1) = f 0 + su (fun i => f (i + 1)) n := by
  rw [Nat.add_comm n 1, su_split f 1 n]
  simp only [su]
  rw [Int.zero_add, su_congr (g := fun i => f (i + 1)) (fun i _ => by rw [Nat.add_comm])]
theorem su_ext {f : Nat → Int} {m n : Nat} (h : m ≤ n) (hz : ∀ i, m ≤ i → i < n → f i = 0) : su f n = su f m := by
  obtain ⟨d, rfl⟩ : ∃ d, n = m + d := ⟨n - m, by omega⟩
  rw [su_split, su_zero (n := d) (fun i hi => hz _ (by omega) (by omega))]; omega
def cv (F G : Nat → Int) (n : Nat) : Int := su (fun i => F i * G (n - i)) (n + 1)
def cg (p a b : Int) : Prop := p ∣ a - b
theorem cg.refl {p : Int} (a : Int) : cg p a a := ⟨0, by omega⟩
theorem cg.of_eq {p a b : Int} (h : a = b) : cg p a b := h ▸ cg.refl a
theorem cg.symm {p a b : Int} : cg p a b → cg p b a := fun ⟨k, h⟩ => ⟨-k, by rw [Int.mul_neg, ← h]; omega⟩
theorem cg.trans {p a b c : Int} : cg p a b → cg p b c → cg p a c := fun ⟨k, h⟩ ⟨m, h'⟩ => ⟨k + m, by rw [Int.mul_add, ← h, ← h']; omega⟩
theorem cg.add {p a b c d : Int} : cg p a b → cg p c d → cg p (a + c) (b + d) := fun ⟨k, h⟩ ⟨m, h'⟩ => ⟨k + m, by rw [Int.mul_add, ← h, ← h']; omega⟩
theorem cg.mod (p a : Int) : cg p (a % p) a := ⟨-(a / p), by have := Int.mul_ediv_add_emod a p; rw [Int.mul_neg]; omega⟩
theorem cg.emod {p a b : Int} (h : cg p a b) : a % p = b % p := by
  obtain ⟨k, h⟩ := h
  rw [show a = b + p * k by omega, Int.add_mul_emod_self_left]
theorem cg.eq {p a b : Int} (h : cg p a b) (ha : 0 ≤ a ∧ a < p) (hb : 0 ≤ b ∧ b < p) : a = b := by
  have := h.emod; rwa [Int.emod_eq_of_lt ha.1 ha.2, Int.emod_eq_of_lt hb.1 hb.2] at this
end Go.Proofs.Ytcalaanklbejmaa.Num
namespace Go.Proofs.Ytcalaanklbejmaa.H
open Go.RowKit Go.Proofs.YtcalaanklbejmaaW.PrintWords Go.Proofs.YtcalaanklbejmaaW.PrintLast Go.Proofs.YtcalaanklbejmaaW.PrintMore Go.Proofs.Ytcalaanklbejmaa.Num
theorem spec_prime (p : Int) : Ev (fun k => spec_l01Prime.f k p) (primeB p) := by
  refine ⟨200, fun k hk => ?_⟩
  unfold spec_l01Prime.f spec_l01In.f
  by_cases h1 : p ≥ 2
  · by_cases h2 : p ≤ 10007
    · obtain ⟨b, hb, hiff⟩ := prime_loop spec_l01Prime.l0 p h1 h2 (fun k i => rfl) 102 k 2 (by omega) (by omega) (by omega) (by omega)
      simp only [if_pos h1, Option.bind_some, decide_eq_true h2, if_true, hb, primeB_loop h1 h2 hiff]
    · simp [if_pos h1, decide_eq_false h2, primeB_hi h2]
  · simp [if_neg h1, primeB_lo h1]
theorem impl_prime (p : Int) : Ev (fun k => impl_IsPrime.f k p) (primeB p) := by
  refine ⟨200, fun k hk => ?_⟩
  unfold impl_IsPrime.f impl_within.f
  by_cases h1 : 2 ≤ p
  · by_cases h2 : p ≤ 10007
    · obtain ⟨b, hb, hiff⟩ := prime_loop impl_IsPrime.l0 p h1 h2 (fun k i => rfl) 102 k 2 (by omega) (by omega) (by omega) (by omega)
      simp only [if_pos h1, Option.bind_some, decide_eq_true h2, if_true, hb, primeB_loop h1 h2 hiff]
    · simp [if_pos h1, decide_eq_false h2, primeB_hi h2]
  · simp [if_neg h1, primeB_lo h1]
theorem impl_mod {p x : Int} (hp : 0 < p) (hp2 : p ≤ 1000000000) : impl_field_mod.f p x = some (x % p) := by
  unfold impl_field_mod.f; rw [if_neg (by omega), md hp hp2]
theorem hasB_iff {p x : Int} : hasB p x = true ↔ 0 ≤ x ∧ x < p := by unfold hasB; simp
def InR (p : Int) (l : List Int) : Prop := ∀ x ∈ l, 0 ≤ x ∧ x < p
theorem InR.get {p : Int} {l : List Int} (h : InR p l) (hp : 0 < p) (i : Nat) : 0 ≤ l.getD i 0 ∧ l.getD i 0 < p := by
  rcases Nat.lt_or_ge i l.length with hi | hi
  · rw [List.getD_eq_getElem?_getD, List.getElem?_eq_getElem hi]; exact h _ (List.getElem_mem hi)
  · rw [List.getD_eq_getElem?_getD, List.getElem?_eq_none hi]; exact ⟨Int.le_refl _, hp⟩
theorem InR.set {p : Int} {l : List Int} (h : InR p l) (i : Nat) {x : Int} (hx : 0 ≤ x ∧ x < p) : InR p (l.set i x) := by
  intro y hy
  rcases List.mem_or_eq_of_mem_set hy with h' | h'
  · exact h y h'
  · rw [h']; exact hx
theorem InR.take {p : Int} {l : List Int} (h : InR p l) (n : Nat) : InR p (l.take n) := fun x hx => h x (List.mem_of_mem_take hx)
theorem InR.zeros {p : Int} (hp : 0 < p) (n : Nat) : InR p (List.replicate n 0) := fun x hx => by
  have := (List.mem_replicate.1 hx).2; subst this; exact ⟨Int.le_refl _, hp⟩
theorem InR.drop {p : Int} {l : List Int} (h : InR p l) (n : Nat) : InR p (l.drop n) := fun x hx => h x (List.mem_of_mem_drop hx)
theorem mul_bd2 {p x y : Int} (hp : p ≤ 10007) (hx : 0 ≤ x ∧ x < p) (hy : 0 ≤ y ∧ y ≤ 100000) : 0 ≤ x * y ∧ x * y ≤ 1000700000 := by
  have := mul_bd (a := 10007) (b := 100000) hx.1 (by omega) hy.1 hy.2; omega
def pr1 (p x : Int) (g : List Int) (i : Nat) : List Int → Nat → Nat → List Int
  | acc, _, 0 => acc
  | acc, j, d + 1 => pr1 p x g i (acc.set (i + j) ((acc.getD (i + j) 0 + x * g.getD j 0) % p)) (j + 1) d
theorem pr1_len (p x : Int) (g : List Int) (i : Nat) : ∀ d j acc, (pr1 p x g i acc j d).length = acc.length
  | 0, _, _ => rfl
  | d + 1, j, acc => by simp [pr1, pr1_len p x g i d]
theorem pr1_inR {p x : Int} (hp : 0 < p) (g : List Int) (i : Nat) : ∀ d j acc, InR p acc → InR p (pr1 p x g i acc j d)
  | 0, _, _, h => h
  | d + 1, j, acc, h => pr1_inR hp g i d (j + 1) _ (h.set _ (emod_bd hp))
theorem in_any (x a b : Int) : spec_l01In.f x a b = some (decide (a ≤ x) && decide (x ≤ b)) := by
  unfold spec_l01In.f; by_cases h : x ≥ a
  · rw [if_pos h, decide_eq_true h, Bool.true_and]
  · rw [if_neg h, decide_eq_false h, Bool.false_and]
theorem in_has {p : Int} (hp : IsP p) (x : Int) : spec_l01In.f x 0 (wrap64 (p - 1)) = some (hasB p x) := by
  rw [in_any, w64 (by have := hp.1; omega) (by have := hp.2.1; omega)]; unfold hasB; congr 2; exact decide_eq_decide.2 (by omega)
theorem in_within (x a b : Int) : spec_l01In.f x a b = some (withinB x a b) := in_any x _ _
theorem _root_.Go.Proofs.Ytcalaanklbejmaa.Num.IsP.pm {p : Int} (h : IsP p) : p ≤ 10007 := h.2.1
theorem _root_.Go.Proofs.Ytcalaanklbejmaa.Num.IsP.p0 {p : Int} (h : IsP p) : 0 < p := by have := h.1; omega
theorem hor_bd {p o x c : Int} (hp2 : p ≤ 10007) (ho : 0 ≤ o ∧ o < p) (hx : 0 ≤ x ∧ x < p) (hc : 0 ≤ c ∧ c < p) : 0 ≤ o * x ∧ o * x ≤ 1000700000 ∧ 0 ≤ o * x + c ∧ o * x + c ≤ 2000000000 := by
  have := mul_bd2 hp2 ho (y := x) (by omega); omega
/-- the numbers of a list, 0 behind its end -/
def co (l : List Int) (i : Nat) : Int := l.getD i 0
theorem co_set (l : List Int) (i j : Nat) (x : Int) (h : i < l.length) : co (l.set i x) j = if j = i then x else co l j := by
  unfold co
  simp only [List.getD_eq_getElem?_getD]
  by_cases e : j = i
  · subst e; rw [List.getElem?_set_self h, if_pos rfl]; rfl
  · rw [List.getElem?_set_ne (Ne.symm e), if_neg e]
theorem InR.co {p : Int} {l : List Int} (h : InR p l) (hp : 0 < p) (i : Nat) : 0 ≤ co l i ∧ co l i < p := h.get hp i
noncomputable def arNum (p : Int) (l : List Int) (a b : Int) : Bool := primeB p && (withinB l.length a b && l.all (hasB p))
theorem impl_numbers (p : Int) (l : List Int) (a b : Int) : Ev (fun k => impl_areNumbers.f k p l a b) (arNum p l a b) := by
  simp only [impl_areNumbers.f]
  exact Ev.bind (impl_prime p) (Ev.now _)
theorem co_ext {l l' : List Int} (hl : l.length = l'.length) (he : ∀ i, i < l.length → co l i = co l' i) : l = l' :=
  List.ext_getElem hl fun i a b => by
    have := he i a
    unfold co at this
    rwa [List.getD_eq_getElem?_getD, List.getD_eq_getElem?_getD, List.getElem?_eq_getElem a, List.getElem?_eq_getElem b] at this
theorem spec_points {p : Int} (hp : IsP p) (l : List Int) (hl : l.length ≤ 1000000000) : Ev (fun k => spec_l01Points.f k p l false) (l.all (hasB p)) := by
  have loop : ∀ d i, i + d = l.length → Ev (fun k => spec_l01Points.l0 k p l false (i : Int)) ((l.drop i).all (hasB p)) := by
    intro d
    induction d with
    | zero => intro i h; refine Ev.succ ?_; simp (disch := omega) only [spec_l01Points.l0, if_neg, List.drop_of_length_le]; exact Ev.now _
    | succ d ih =>
      intro i h
      have hi := ih (i + 1) (by omega)
      refine Ev.succ ?_
      rw [List.drop_eq_getElem_cons (show i < l.length by omega), List.all_cons]
      simp (disch := omega) only [spec_l01Points.l0, if_pos, in_has hp, Option.bind_some, rd_lt l i (show i < l.length by omega)]
      cases hb : hasB p (l[i]'(by omega)) with
      | true =>
        simp only [if_true, Bool.true_and]
        refine Ev.succ ?_
        simp only [spec_l01Points.l1, ite_self]
        refine Ev.succ ?_
        simp (disch := omega) only [spec_l01Points.j2, Bool.false_eq_true, if_false, wp1]
        exact hi
      | false => simp only [Bool.false_eq_true, if_false, Bool.false_and]; exact Ev.now _
  have h := loop l.length 0 (by omega)
  simp only [spec_l01Points.f]
  exact h
theorem set_next (out : List Int) (v : Int) {m n : Nat} (h : out.length = n) (hm : 0 < m) : (out ++ List.replicate m 0).set n v = (out ++ [v]) ++ List.replicate (m - 1) 0 := by
  subst h
  obtain ⟨m, rfl⟩ : ∃ m', m = m' + 1 := ⟨m - 1, by omega⟩
  rw [List.set_append_right _ _ (Nat.le_refl _)]
  simp [List.replicate_succ]
def msL (p : Int) (a b : List Int) : Nat → List Int
  | 0 => []
  | n + 1 => msL p a b n ++ [cv (co a) (co b) n % p]
theorem msL_len (p : Int) (a b : List Int) : ∀ n, (msL p a b n).length = n
  | 0 => rfl
  | n + 1 => by simp [msL, msL_len p a b n]
theorem msL_co (p : Int) (a b : List Int) (t : Nat) : ∀ n, t < n → co (msL p a b n) t = cv (co a) (co b) t % p
  | n + 1, h => by
    have hl := msL_len p a b n
    rw [msL, co, List.getD_eq_getElem?_getD]
    rcases Nat.lt_or_ge t n with h1 | h1
    · rw [List.getElem?_append_left (by omega), ← List.getD_eq_getElem?_getD]; exact msL_co p a b t n h1
    · rw [List.getElem?_append_right (by omega), show t = n by omega, hl]; simp
/-- the program's inner sum -/
def ma (p : Int) (a b : List Int) (i : Nat) : Int → Nat → Nat → Int
  | acc, _, 0 => acc
  | acc, j, d + 1 => ma p a b i ((acc + a.getD j 0 * b.getD (i - j) 0) % p) (j + 1) d
theorem ma_cg (p : Int) (a b : List Int) (i : Nat) : ∀ d j acc, cg p (ma p a b i acc j d) (acc + su (fun t => co a (j + t) * co b (i - (j + t))) d)
  | 0, _, acc => cg.of_eq (by simp [ma, su])
  | d + 1, j, acc => by
    have h := ma_cg p a b i d (j + 1) ((acc + a.getD j 0 * b.getD (i - j) 0) % p)
    rw [ma]
    refine h.trans ?_
    rw [su_head]
    refine (((cg.mod p _).add (cg.refl _)).trans (cg.of_eq ?_))
    rw [su_congr (g := fun t => co a (j + (t + 1)) * co b (i - (j + (t + 1)))) (fun t _ => by rw [show j + 1 + t = j + (t + 1) by omega])]
    simp only [Nat.add_zero, co]
    omega
theorem ma_bd {p : Int} (hp : 0 < p) (a b : List Int) (i : Nat) : ∀ d j acc, (0 ≤ acc ∧ acc < p) → 0 ≤ ma p a b i acc j d ∧ ma p a b i acc j d < p
  | 0, _, _, h => h
  | d + 1, j, acc, h => ma_bd hp a b i d (j + 1) _ (emod_bd hp)
theorem ma_eq {p : Int} (hp : 0 < p) (a b : List Int) (i : Nat) : ma p a b i 0 0 (i + 1) = cv (co a) (co b) i % p := by
  refine cg.eq ?_ (ma_bd hp a b i _ _ _ ⟨Int.le_refl _, hp⟩) (emod_bd hp)
  refine (ma_cg p a b i (i + 1) 0 0).trans ((cg.of_eq ?_).trans (cg.mod p _).symm)
  simp only [Int.zero_add, Nat.zero_add]; rfl
theorem impl_mulser {p : Int} {a b : List Int} {N : Nat} (hp : IsP p) (ra : InR p a) (rb : InR p b) (ha : a.length = N) (hb : b.length = N) (hN : N ≤ 1000) : ∀ d n, n + d = N → Ev (fun k => impl_MultiplySeries.l0 k p a b (msL p a b n ++ List.replicate d 0) (N : Int) (n : Int)) (msL p a b N, 0) := by
  have hp0 := hp.p0
  have hpm := hp.pm
  have inner : ∀ (R : List Int × Int) (out : List Int) (n : Nat), out.length = N → n < N → ∀ d j acc, j + d = n + 1 → (0 ≤ acc ∧ acc < p) → Ev (fun k => impl_MultiplySeries.l0 k p a b (out.set n (ma p a b n acc j d)) (N : Int) ((n + 1 : Nat) : Int)) R → Ev (fun k => impl_MultiplySeries.l1 k p a b (out.set n acc) (n : Int) (N : Int) (n : Int) ((n + 1 : Nat) : Int) (j : Int)) R := by
    intro R out n ho hn d
    induction d with
    | zero =>
      intro j acc h ha' hE
      rw [ma] at hE
      refine Ev.succ ?_
      simp (disch := omega) only [impl_MultiplySeries.l1, if_neg, wp1]; exact hE
    | succ d ih =>
      intro j acc h ha' hE
      have h1 := ra.get hp0 j
      have h2 := rb.get hp0 (n - j)
      have h3 := hor_bd hp.pm h1 h2 ha'
      have hw : wrap64 ((n : Int) - (j : Int)) = ((n - j : Nat) : Int) := by rw [w64 (by omega) (by omega)]; omega
      have hl : (out.set n acc).length = N := by rw [List.length_set]; exact ho
      have hg : (out.set n acc).getD n 0 = acc := by rw [List.getD_eq_getElem?_getD]; simp [show n < out.length by omega]
      rw [ma] at hE
      refine Ev.succ ?_
      simp (disch := omega) only [impl_MultiplySeries.l1, hw, if_pos]
      simp (disch := omega) only [rd_n, hg, w64, impl_mod hp0, Option.bind_some, wp1, Int.toNat_natCast, List.set_set]
      exact ih (j + 1) _ (by omega) (emod_bd hp0) hE
  intro d
  induction d with
  | zero => intro n h; refine Ev.succ ?_; simp (disch := omega) only [impl_MultiplySeries.l0, if_neg, List.replicate_zero, List.append_nil]; rw [show n = N by omega]; exact Ev.now _
  | succ d ih =>
    intro n h
    have hl := msL_len p a b n
    have e : (msL p a b n ++ List.replicate (d + 1) 0).set n 0 = msL p a b n ++ List.replicate (d + 1) 0 := by
      rw [set_next _ _ hl (by omega)]; simp [List.replicate_succ]
    have hs := inner (msL p a b N, 0) (msL p a b n ++ List.replicate (d + 1) 0) n (by simp [hl]; omega) (by omega) (n + 1) 0 0 (by omega) ⟨Int.le_refl _, hp0⟩ (by
      rw [set_next _ _ hl (by omega), ma_eq hp0]; exact ih (n + 1) (by omega))
    rw [e] at hs
    refine Ev.succ ?_
    simp (disch := omega) only [impl_MultiplySeries.l0, if_pos, wp1]
    exact hs
/-- the reference's: row by row -/
def sqO (p : Int) (a b : List Int) (N : Nat) : List Int → Nat → Nat → List Int
  | acc, _, 0 => acc
  | acc, i, d + 1 => sqO p a b N (pr1 p (a.getD i 0) b i acc 0 (N - i)) (i + 1) d
theorem pr1_cg (p x : Int) (g : List Int) (i t : Nat) : ∀ d j acc, i + j + d ≤ acc.length → cg p (co (pr1 p x g i acc j d) t) (co acc t + if i + j ≤ t ∧ t < i + j + d then x * co g (t - i) else 0)
  | 0, j, acc, _ => by rw [pr1, if_neg (by omega), Int.add_zero]; exact cg.refl _
  | d + 1, j, acc, h => by
    rw [pr1]
    refine (pr1_cg p x g i t d (j + 1) _ (by rw [List.length_set]; omega)).trans ?_
    rw [co_set _ _ _ _ (by omega)]
    by_cases ht : t = i + j
    · rw [if_pos ht, if_neg (by omega), if_pos (by omega), Int.add_zero, ht, show i + j - i = j by omega]; exact cg.mod p _
    · rw [if_neg ht]
      by_cases h2 : i + (j + 1) ≤ t ∧ t < i + (j + 1) + d
      · rw [if_pos h2, if_pos (by omega)]; exact cg.refl _
      · rw [if_neg h2, if_neg (by omega)]; exact cg.refl _
theorem sqO_len (p : Int) (a b : List Int) (N : Nat) : ∀ d i acc, (sqO p a b N acc i d).length = acc.length
  | 0, _, _ => rfl
  | d + 1, i, acc => by rw [sqO, sqO_len p a b N d, pr1_len]
theorem sqO_inR {p : Int} (hp : 0 < p) (a b : List Int) (N : Nat) : ∀ d i acc, InR p acc → InR p (sqO p a b N acc i d)
  | 0, _, _, h => h
  | d + 1, i, acc, h => sqO_inR hp a b N d (i + 1) _ (pr1_inR hp _ _ _ _ _ h)
theorem sqO_cg (p : Int) (a b : List Int) (N t : Nat) (ht : t < N) : ∀ d i acc, acc.length = N → i + d ≤ N → cg p (co (sqO p a b N acc i d) t) (co acc t + su (fun s => if i + s ≤ t then co a (i + s) * co b (t - (i + s)) else 0) d)
  | 0, i, acc, _, _ => by rw [sqO, su, Int.add_zero]; exact cg.refl _
  | d + 1, i, acc, h, h2 => by
    rw [sqO]
    refine (sqO_cg p a b N t ht d (i + 1) _ (by rw [pr1_len]; exact h) (by omega)).trans ?_
    rw [su_head, su_congr (f := fun s => if i + 1 + s ≤ t then co a (i + 1 + s) * co b (t - (i + 1 + s)) else 0) (g := fun s => if i + (s + 1) ≤ t then co a (i + (s + 1)) * co b (t - (i + (s + 1))) else 0) (fun s _ => by rw [show i + 1 + s = i + (s + 1) by omega])]
    refine ((pr1_cg p (a.getD i 0) b i t (N - i) 0 acc (by omega)).add (cg.refl _)).trans (cg.of_eq ?_)
    simp only [Nat.add_zero]
    by_cases hi : i ≤ t
    · rw [if_pos (by omega), if_pos hi]; simp only [co]; omega
    · rw [if_neg (by omega), if_neg hi]; omega
theorem sq_eq {p : Int} (hp : 0 < p) (a b : List Int) (N : Nat) : sqO p a b N (List.replicate N 0) 0 N = msL p a b N := by
  have hl : (sqO p a b N (List.replicate N 0) 0 N).length = N := by rw [sqO_len, List.length_replicate]
  refine co_ext (by rw [hl, msL_len]) fun t ht => ?_
  rw [hl] at ht
  rw [msL_co p a b t N ht]
  refine cg.eq ?_ ((sqO_inR hp a b N _ _ _ (InR.zeros hp _)).co hp t) (emod_bd hp)
  refine (sqO_cg p a b N t ht N 0 _ (by simp) (by omega)).trans ((cg.of_eq ?_).trans (cg.mod p _).symm)
  rw [show co (List.replicate N (0 : Int)) t = 0 by simp [co, List.getD_eq_getElem?_getD, List.getElem?_replicate, ht], Int.zero_add]
  rw [su_ext (m := t + 1) (by omega) (fun s h1 h2 => by simp only [Nat.zero_add]; rw [if_neg (by omega)])]
  exact su_congr fun s hs => by simp only [Nat.zero_add]; rw [if_pos (by omega)]
theorem spec_mulser {p : Int} {a b : List Int} {N : Nat} (hp : IsP p) (ra : InR p a) (rb : InR p b) (ha : a.length = N) (hb : b.length = N) (hN : N ≤ 1000) : Ev (fun k => spec_MultiplySeries.l0 k p a b (List.replicate N 0) 0) (msL p a b N, 0) := by
  have hp0 := hp.p0
  have hpm := hp.pm
  have inner : ∀ (R : List Int × Int) (n : Nat), n < N → ∀ d j acc, n + j + d = N → acc.length = N → InR p acc → Ev (fun k => spec_MultiplySeries.l0 k p a b (pr1 p (a.getD n 0) b n acc j d) ((n + 1 : Nat) : Int)) R → Ev (fun k => spec_MultiplySeries.l1 k p a b acc (n : Int) (j : Int)) R := by
    intro R n hn d
    induction d with
    | zero =>
      intro j acc h hl rA hE
      have hw : wrap64 ((n : Int) + (j : Int)) = ((n + j : Nat) : Int) := by rw [w64 (by omega) (by omega)]; omega
      rw [pr1] at hE
      refine Ev.succ ?_
      simp (disch := omega) only [spec_MultiplySeries.l1, hw, if_neg, wp1]; exact hE
    | succ d ih =>
      intro j acc h hl rA hE
      have q1 : ((n + j : Nat) : Int) < (b.length : Int) := by omega
      have q2 : (0 : Int) ≤ ((n + j : Nat) : Int) := by omega
      have q3 : ((n + j : Nat) : Int) < (acc.length : Int) := by omega
      have q4 : (0 : Int) ≤ (n : Int) := by omega
      have q5 : (n : Int) < (a.length : Int) := by omega
      have q6 : (0 : Int) ≤ (j : Int) := by omega
      have q7 : (j : Int) < (b.length : Int) := by omega
      have q8 : ¬ p = 0 := by omega
      have hw : wrap64 ((n : Int) + (j : Int)) = ((n + j : Nat) : Int) := by rw [w64 (by omega) (by omega)]; omega
      have w3 : wrap64 ((j : Int) + 1) = ((j + 1 : Nat) : Int) := wn (by omega)
      have h3 := hor_bd hp.pm (ra.get hp0 n) (rb.get hp0 j) (rA.get hp0 (n + j))
      have w1 : wrap64 (a.getD n 0 * b.getD j 0) = a.getD n 0 * b.getD j 0 := w64 (by omega) (by omega)
      have w2 : wrap64 (acc.getD (n + j) 0 + a.getD n 0 * b.getD j 0) = acc.getD (n + j) 0 + a.getD n 0 * b.getD j 0 := w64 (by omega) (by omega)
      have w4 : Int.tmod (acc.getD (n + j) 0 + a.getD n 0 * b.getD j 0) p = (acc.getD (n + j) 0 + a.getD n 0 * b.getD j 0) % p := tmod_nn (by omega)
      rw [pr1] at hE
      refine Ev.succ ?_
      simp only [spec_MultiplySeries.l1, hw, if_pos q1, if_pos q2, if_pos q3, if_pos q4, if_pos q5, if_pos q6, if_pos q7, if_neg q8, rd_n, w1, w2, w3, w4, Int.toNat_natCast]
      exact ih (j + 1) _ (by omega) (by rw [List.length_set]; exact hl) (rA.set _ (emod_bd hp0)) hE
  have loop : ∀ d n acc, n + d = N → acc.length = N → InR p acc → Ev (fun k => spec_MultiplySeries.l0 k p a b acc (n : Int)) (sqO p a b N acc n d, 0) := by
    intro d
    induction d with
    | zero => intro n acc h hl rA; refine Ev.succ ?_; simp (disch := omega) only [spec_MultiplySeries.l0, if_neg]; rw [sqO]; exact Ev.now _
    | succ d ih =>
      intro n acc h hl rA
      have hs := inner (sqO p a b N acc n (d + 1), 0) n (by omega) (N - n) 0 acc (by omega) hl rA (by
        rw [sqO]; exact ih (n + 1) _ (by omega) (by rw [pr1_len]; exact hl) (pr1_inR hp0 _ _ _ _ _ rA))
      refine Ev.succ ?_
      simp (disch := omega) only [spec_MultiplySeries.l0, if_pos]
      exact hs
  have h := loop N 0 _ (by omega) (by simp) (InR.zeros hp0 N)
  rw [sq_eq hp0] at h
  exact h
theorem spec_given {p a : Int} {l : List Int} (hl : l.length ≤ 1000000000) : Ev (fun k => spec_l05Given.f k p l a) (arNum p l a 24) := by
  simp only [spec_l05Given.f]
  refine Ev.bind (spec_prime p) ?_
  unfold arNum
  cases hpr : primeB p with
  | false => simp only [Bool.false_eq_true, if_false, Bool.false_and]; exact Ev.now _
  | true =>
    simp only [if_true, in_within, Option.bind_some, Bool.true_and]
    cases hw : withinB (l.length : Int) a 24 with
    | false => simp only [Bool.false_eq_true, if_false, Bool.false_and]; exact Ev.now _
    | true =>
      simp only [if_true, Bool.true_and]
      exact Ev.bind (spec_points (primeB_iff.1 hpr) l hl) (Ev.now _)
end Go.Proofs.Ytcalaanklbejmaa.H
