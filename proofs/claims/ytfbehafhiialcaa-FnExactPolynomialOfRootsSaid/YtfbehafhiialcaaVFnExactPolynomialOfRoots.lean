/- Plain laws that the claim of FnExactPolynomialOfRoots reaches: numbers modulo a prime, lists, and what the printed functions answer. -/
import Derived.RowKit
import Derived.Test.YtfbehafhiialcaaWWords
import Derived.Test.YtfbehafhiialcaaWMore
import Derived.Test.YtfbehafhiialcaaMabcd1
import Derived.Test.YtfbehafhiialcaaMb1
import Derived.Test.YtfbehafhiialcaaMabd1
import Derived.Test.YtfbehafhiialcaaMbd1
import Derived.Test.YtfbehafhiialcaaMabcd2
import Derived.Test.YtfbehafhiialcaaMabcd3
import Derived.Test.YtfbehafhiialcaaMab1
import Derived.Test.YtfbehafhiialcaaMbd2
set_option linter.unusedVariables false
set_option linter.unusedSimpArgs false
namespace Go.Proofs.Ytfbehafhiialcaa.Num
open Go.RowKit
theorem w64 {x : Int} (h1 : -9223372036854775808 ≤ x) (h2 : x ≤ 9223372036854775807) : wrap64 x = x := by
  unfold wrap64; omega
theorem tmod_nn {a b : Int} (h : 0 ≤ a) : Int.tmod a b = a % b := Int.tmod_eq_emod_of_nonneg h
theorem tmod_lt' {x p : Int} (hp : 0 < p) : Int.tmod x p < p ∧ -p < Int.tmod x p := by
  constructor
  · exact Int.tmod_lt_of_pos x hp
  · have h := Int.tmod_lt_of_pos (-x) hp
    rw [Int.neg_tmod] at h
    omega
/-- the program's way to a number of the field -/
theorem md {x p : Int} (hp : 0 < p) (hp2 : p ≤ 1000000000) : Int.tmod (wrap64 (Int.tmod x p + p)) p = x % p := by
  obtain ⟨h1, h2⟩ := tmod_lt' (x := x) hp
  rw [w64 (by omega) (by omega), tmod_nn (by omega), Int.tmod_def]
  have : x - p * x.tdiv p + p = x + p * (1 - x.tdiv p) := by
    rw [Int.mul_sub]; omega
  rw [this, Int.add_mul_emod_self_left]
theorem emod_bd {x p : Int} (hp : 0 < p) : 0 ≤ x % p ∧ x % p < p := ⟨Int.emod_nonneg _ (by omega), Int.emod_lt_of_pos _ hp⟩
theorem mul_bd {x y a b : Int} (hx0 : 0 ≤ x) (hx : x ≤ a) (hy0 : 0 ≤ y) (hy : y ≤ b) : 0 ≤ x * y ∧ x * y ≤ a * b :=
  ⟨Int.mul_nonneg hx0 hy0, Int.mul_le_mul hx hy hy0 (by omega)⟩
/-- what trial division tells -/
def Pr (p : Nat) : Prop := 2 ≤ p ∧ ∀ d, d ∣ p → d = 1 ∨ d = p
theorem Pr.of_trial {p : Nat} (h2 : 2 ≤ p) (h : ∀ d, 2 ≤ d → d * d ≤ p → p % d ≠ 0) : Pr p := by
  refine ⟨h2, fun d hd => ?_⟩
  obtain ⟨e, he⟩ := hd
  have hd0 : 0 < d := by rcases Nat.eq_zero_or_pos d with h0 | h0; (subst h0; simp at he; omega); exact h0
  have he0 : 0 < e := by rcases Nat.eq_zero_or_pos e with h0 | h0; (subst h0; simp at he; omega); exact h0
  rcases Nat.lt_or_ge d 2 with h1 | h1
  · left; omega
  rcases Nat.lt_or_ge e 2 with h3 | h3
  · right
    have : e = 1 := by omega
    subst this; simpa using he.symm
  · exfalso
    rcases Nat.le_total d e with hle | hle
    · refine h d h1 ?_ ?_
      · rw [he]; exact Nat.mul_le_mul_left d hle
      · rw [he]; exact Nat.mul_mod_right d e
    · refine h e h3 ?_ ?_
      · rw [he]; exact Nat.mul_le_mul_right e hle
      · rw [he]; exact Nat.mul_mod_left d e
/-- is it a prime of the program's? -/
def IsP (p : Int) : Prop := 2 ≤ p ∧ p ≤ 10007 ∧ Pr p.toNat
open Classical in
/-- the same as a bool -/
noncomputable def primeB (p : Int) : Bool := decide (IsP p)
theorem primeB_iff {p : Int} : primeB p = true ↔ IsP p := by
  unfold primeB; exact @decide_eq_true_iff _ (Classical.propDecidable _)
theorem prime_loop (l : Nat → Int → Int → Option Bool) (p : Int) (hp : 2 ≤ p) (hp2 : p ≤ 10007)
    (hl : ∀ k i, l (k + 1) p i = if wrap64 (i * i) ≤ p then (if i = 0 then none else (if Int.tmod p i = 0 then some false else l k p (wrap64 (i + 1)))) else some true)
    (d : Nat) : ∀ (k : Nat) (i : Int), 2 ≤ i → i ≤ 101 → 101 - i < d → d < k →
      ∃ b, l k p i = some b ∧ (b = true ↔ ∀ j : Int, i ≤ j → j * j ≤ p → p % j ≠ 0) := by
  induction d with
  | zero => intro k i h1 h2 h3; omega
  | succ d ih =>
    intro k i h1 h2 h3 hk
    obtain ⟨k, rfl⟩ : ∃ m, k = m + 1 := ⟨k - 1, by omega⟩
    rw [hl]
    have hb := mul_bd (a := 101) (b := 101) (x := i) (y := i) (by omega) h2 (by omega) h2
    rw [w64 (by omega) (by omega), w64 (x := i + 1) (by omega) (by omega)]
    by_cases hle : i * i ≤ p
    · have hi : i ≤ 100 := by
        rcases Int.lt_or_le 100 i with h | h
        · have := Int.mul_le_mul (a := 101) (b := 101) (c := i) (d := i) (by omega) (by omega) (by omega) (by omega); omega
        · exact h
      rw [if_pos hle, if_neg (by omega), tmod_nn (by omega)]
      by_cases hd : p % i = 0
      · rw [if_pos hd]
        exact ⟨false, rfl, by simp; exact ⟨i, Int.le_refl _, hle, hd⟩⟩
      · rw [if_neg hd]
        obtain ⟨b, hb1, hb2⟩ := ih k (i + 1) (by omega) (by omega) (by omega) (by omega)
        refine ⟨b, hb1, hb2.trans ⟨fun h j hj hjj => ?_, fun h j hj hjj => h j (by omega) hjj⟩⟩
        by_cases e : j = i
        · subst e; exact hd
        · exact h j (by omega) hjj
    · rw [if_neg hle]
      refine ⟨true, rfl, by simp; intro j hj hjj; exfalso; apply hle; exact Int.le_trans (Int.mul_le_mul hj hj (by omega) (by omega)) hjj⟩
theorem trial_iff {p : Int} (hp : 2 ≤ p) : (∀ j : Int, 2 ≤ j → j * j ≤ p → p % j ≠ 0) ↔ Pr p.toNat := by
  constructor
  · intro h
    refine Pr.of_trial (by omega) fun d hd hdd h0 => ?_
    refine h d (by omega) ?_ ?_
    · have : ((d * d : Nat) : Int) ≤ p := by omega
      simpa using this
    · have : ((p.toNat % d : Nat) : Int) = 0 := by rw [h0]; rfl
      rw [Int.natCast_emod, Int.toNat_of_nonneg (by omega)] at this
      exact this
  · intro h j hj hjj h0
    obtain ⟨d, rfl⟩ : ∃ d : Nat, j = d := ⟨j.toNat, by omega⟩
    obtain ⟨n, rfl⟩ : ∃ n : Nat, p = n := ⟨p.toNat, by omega⟩
    simp only [Int.toNat_natCast] at h
    have hdv : d ∣ n := by
      apply Nat.dvd_of_mod_eq_zero
      have : ((n % d : Nat) : Int) = 0 := by rw [Int.natCast_emod]; exact h0
      omega
    have hn : d * d ≤ n := by
      have : ((d * d : Nat) : Int) ≤ n := by simpa using hjj
      omega
    rcases h.2 d hdv with e | e
    · omega
    · subst e
      have : d * 2 ≤ d * d := Nat.mul_le_mul_left d (by omega)
      omega
theorem primeB_loop {p : Int} {b : Bool} (h1 : 2 ≤ p) (h2 : p ≤ 10007) (h : b = true ↔ ∀ j : Int, 2 ≤ j → j * j ≤ p → p % j ≠ 0) : b = primeB p := by
  rw [Bool.eq_iff_iff, primeB_iff, h, trial_iff h1]
  exact ⟨fun h => ⟨h1, h2, h⟩, fun h => h.2.2⟩
theorem primeB_lo {p : Int} (h : ¬ 2 ≤ p) : primeB p = false := by
  rw [Bool.eq_false_iff]; intro e; exact h (primeB_iff.1 e).1
theorem primeB_hi {p : Int} (h : ¬ p ≤ 10007) : primeB p = false := by
  rw [Bool.eq_false_iff]; intro e; exact h (primeB_iff.1 e).2.1
end Go.Proofs.Ytfbehafhiialcaa.Num
namespace Go.Proofs.Ytfbehafhiialcaa.H
open Go.RowKit Go.Proofs.YtfbehafhiialcaaW.PrintWords Go.Proofs.YtfbehafhiialcaaW.PrintLast Go.Proofs.YtfbehafhiialcaaW.PrintMore Go.Proofs.Ytfbehafhiialcaa.Num
theorem Ev.succ {α : Type} {g : Nat → Option α} {r : α} (h : Ev (fun k => g (k + 1)) r) : Ev g r := by
  obtain ⟨K, h⟩ := h
  refine ⟨K + 1, fun k hk => ?_⟩
  obtain ⟨m, rfl⟩ : ∃ m, k = m + 1 := ⟨k - 1, by omega⟩
  exact h m (by omega)
theorem wp1 {i : Nat} (h : i ≤ 1000000000000) : wrap64 ((i : Int) + 1) = ((i + 1 : Nat) : Int) := by rw [w64 (by omega) (by omega)]; omega
theorem rd_n (l : List Int) (i : Nat) : rd l (i : Int) = l.getD i 0 := by simp [rd]
theorem rd_nat (l : List Int) (i : Nat) : rd l (i : Int) = l.getD i 0 := by simp [rd]
theorem rd_lt (l : List Int) (i : Nat) (h : i < l.length) : rd l (i : Int) = l[i] := by simp [rd, h]
theorem wn {i : Nat} (h : i ≤ 1000000000000) : wrap64 ((i : Int) + 1) = ((i + 1 : Nat) : Int) := by rw [w64 (by omega) (by omega)]; omega
theorem toI_loop (l : List Int) (hl : l.length ≤ 1000000000) (d : Nat) : ∀ (k i : Nat) (acc : List Int), i + d = l.length → acc.length = l.length → acc.take i = l.take i → d < k → laws_toInt64S.l0 k l acc (i : Int) = some l := by
  induction d with
  | zero =>
    intro k i acc h1 h2 h3 hk
    obtain ⟨k, rfl⟩ : ∃ m, k = m + 1 := ⟨k - 1, by omega⟩
    simp only [laws_toInt64S.l0]
    rw [if_neg (by omega)]
    have : acc = l := by
      have e1 : acc.take i = acc := List.take_of_length_le (by omega)
      have e2 : l.take i = l := List.take_of_length_le (by omega)
      rw [e1, e2] at h3; exact h3
    rw [this]
  | succ d ih =>
    intro k i acc h1 h2 h3 hk
    obtain ⟨k, rfl⟩ : ∃ m, k = m + 1 := ⟨k - 1, by omega⟩
    simp only [laws_toInt64S.l0]
    rw [if_pos (by omega), if_pos (by omega), if_pos (by omega), wn (by omega), rd_lt l i (by omega), Int.toNat_natCast]
    refine ih k (i + 1) _ (by omega) (by simpa using h2) ?_ (by omega)
    rw [List.take_succ_eq_append_getElem (by simp; omega), List.take_succ_eq_append_getElem (by omega), List.getElem_set_self, List.take_set_of_le (Nat.le_refl i), h3]
theorem toI_same (l : List Int) (hl : l.length ≤ 1048576) : ∃ K, ∀ k, K ≤ k → laws_toInt64S.f k l = some l := by
  refine ⟨l.length + 2, fun k hk => ?_⟩
  unfold laws_toInt64S.f
  rw [if_pos (by omega), if_pos (by omega)]
  exact toI_loop l (by omega) l.length k 0 _ (by omega) (by simp) (by simp) (by omega)
theorem eqI_loop (l : List Int) (hl : l.length ≤ 1000000000) (d : Nat) : ∀ (k i : Nat), i + d = l.length → d < k → laws_eqInt64S.l0 k l l (i : Int) = some true := by
  induction d with
  | zero =>
    intro k i h1 hk
    obtain ⟨k, rfl⟩ : ∃ m, k = m + 1 := ⟨k - 1, by omega⟩
    simp only [laws_eqInt64S.l0]
    rw [if_neg (by omega)]
  | succ d ih =>
    intro k i h1 hk
    obtain ⟨k, rfl⟩ : ∃ m, k = m + 1 := ⟨k - 1, by omega⟩
    simp only [laws_eqInt64S.l0]
    rw [if_pos (by omega), if_pos (by omega), if_pos (by omega), if_pos trivial, wn (by omega)]
    exact ih k (i + 1) (by omega) (by omega)
theorem eqI_same (l : List Int) (hl : l.length ≤ 2000000) : ∃ K, ∀ k, K ≤ k → laws_eqInt64S.f k l l = some true := by
  refine ⟨l.length + 2, fun k hk => ?_⟩
  unfold laws_eqInt64S.f
  rw [if_pos rfl]
  exact eqI_loop l (by omega) l.length k 0 (by omega) (by omega)
/-- n, n + 1, .. : d of them -/
def up (n : Int) : Nat → List Int
  | 0 => []
  | d + 1 => n :: up (n + 1) d
theorem up_len : ∀ (d : Nat) (n : Int), (up n d).length = d
  | 0, _ => rfl
  | d + 1, n => by simp [up, up_len d]
theorem mark_loop (d : Nat) : ∀ (k i : Nat) (l : List Int) (n : Int), i + d = l.length → l.length ≤ 1000000000 → 0 ≤ n → n + d ≤ 1000000000000 → d < k → laws_markInt64S.l0 k l n (i : Int) = some (n + d, l.take i ++ up n d) := by
  induction d with
  | zero =>
    intro k i l n h1 h2 h3 h4 hk
    obtain ⟨k, rfl⟩ : ∃ m, k = m + 1 := ⟨k - 1, by omega⟩
    simp only [laws_markInt64S.l0]
    rw [if_neg (by omega), List.take_of_length_le (by omega)]
    simp [up]
  | succ d ih =>
    intro k i l n h1 h2 h3 h4 hk
    obtain ⟨k, rfl⟩ : ∃ m, k = m + 1 := ⟨k - 1, by omega⟩
    simp only [laws_markInt64S.l0]
    have hw : wrap64 (n + 1) = n + 1 := w64 (by omega) (by omega)
    rw [if_pos (by omega), if_pos (by omega), wn (by omega), Int.toNat_natCast, hw]
    rw [ih k (i + 1) _ (n + 1) (by simp; omega) (by simpa using h2) (by omega) (by omega) (by omega)]
    rw [List.take_succ_eq_append_getElem (by simp; omega), List.getElem_set_self, List.take_set_of_le (Nat.le_refl i)]
    simp only [up, List.append_assoc, List.cons_append, List.nil_append]
    congr 2
    omega
theorem mark_up (l : List Int) (hl : l.length ≤ 2000000) (n : Int) (h0 : 0 ≤ n) (h1 : n ≤ 100000000) : ∃ K, ∀ k, K ≤ k → laws_markInt64S.f k l n = some (n + l.length, up n l.length) := by
  refine ⟨l.length + 2, fun k hk => ?_⟩
  unfold laws_markInt64S.f
  have := mark_loop l.length k 0 l n (by omega) (by omega) h0 (by omega) (by omega)
  simpa using this
theorem up_get : ∀ (d i : Nat) (n : Int) (h : i < d), (up n d)[i]'(by rw [up_len]; exact h) = n + i
  | d + 1, 0, n, _ => by simp [up]
  | d + 1, i + 1, n, h => by simp only [up, List.getElem_cons_succ]; rw [up_get d i (n + 1) (by omega)]; omega
theorem held_loop (m : Nat) (n0 : Int) (hm : m ≤ 1000000000) (h0 : 0 ≤ n0) (hb : n0 ≤ 1000000000) (d : Nat) : ∀ (k i : Nat), i + d = m → d < k → laws_heldInt64S.l0 k (up n0 m) (n0 + i) (i : Int) = some (n0 + m) := by
  induction d with
  | zero =>
    intro k i h1 hk
    obtain ⟨k, rfl⟩ : ∃ m, k = m + 1 := ⟨k - 1, by omega⟩
    simp only [laws_heldInt64S.l0]
    rw [if_neg (by rw [up_len]; omega)]
    congr 2; omega
  | succ d ih =>
    intro k i h1 hk
    obtain ⟨k, rfl⟩ : ∃ m, k = m + 1 := ⟨k - 1, by omega⟩
    simp only [laws_heldInt64S.l0]
    have hw : wrap64 (n0 + i + 1) = n0 + ((i + 1 : Nat) : Int) := by rw [w64 (by omega) (by omega)]; omega
    rw [if_pos (by rw [up_len]; omega), if_pos (by omega), rd_lt _ _ (by rw [up_len]; omega), up_get _ _ _ (by omega), if_pos rfl, wn (by omega), hw]
    exact ih k (i + 1) (by omega) (by omega)
theorem held_up (m : Nat) (hm : m ≤ 2000000) (n : Int) (h0 : 0 ≤ n) (h1 : n ≤ 100000000) : ∃ K, ∀ k, K ≤ k → laws_heldInt64S.f k (up n m) n = some (n + m) := by
  refine ⟨m + 2, fun k hk => ?_⟩
  unfold laws_heldInt64S.f
  have := held_loop m n (by omega) h0 (by omega) m k 0 (by omega) (by omega)
  simpa using this
end Go.Proofs.Ytfbehafhiialcaa.H
namespace Go.Proofs.Ytfbehafhiialcaa.Num
open Go.RowKit
def cg (p a b : Int) : Prop := p ∣ a - b
theorem cg.symm {p a b : Int} : cg p a b → cg p b a := fun ⟨k, h⟩ => ⟨-k, by rw [Int.mul_neg, ← h]; omega⟩
theorem cg.trans {p a b c : Int} : cg p a b → cg p b c → cg p a c := fun ⟨k, h⟩ ⟨m, h'⟩ => ⟨k + m, by rw [Int.mul_add, ← h, ← h']; omega⟩
end Go.Proofs.Ytfbehafhiialcaa.Num
namespace Go.Proofs.Ytfbehafhiialcaa.H
open Go.RowKit Go.Proofs.YtfbehafhiialcaaW.PrintWords Go.Proofs.YtfbehafhiialcaaW.PrintLast Go.Proofs.YtfbehafhiialcaaW.PrintMore Go.Proofs.Ytfbehafhiialcaa.Num
theorem spec_prime (p : Int) : Ev (fun k => spec_l01Prime.f k p) (primeB p) := by
  refine ⟨200, fun k hk => ?_⟩
  unfold spec_l01Prime.f spec_l01In.f
  by_cases h1 : p ≥ 2
  · by_cases h2 : p ≤ 10007
    · obtain ⟨b, hb, hiff⟩ := prime_loop spec_l01Prime.l0 p h1 h2 (fun k i => rfl) 102 k 2 (by omega) (by omega) (by omega) (by omega)
      simp only [if_pos h1, Option.bind_some, decide_eq_true h2, if_true, hb, primeB_loop h1 h2 hiff]
    · simp [if_pos h1, decide_eq_false h2, primeB_hi h2]
  · simp [if_neg h1, primeB_lo h1]
theorem impl_prime (p : Int) : Ev (fun k => impl_IsPrime.f k p) (primeB p) := by
  refine ⟨200, fun k hk => ?_⟩
  unfold impl_IsPrime.f impl_within.f
  by_cases h1 : 2 ≤ p
  · by_cases h2 : p ≤ 10007
    · obtain ⟨b, hb, hiff⟩ := prime_loop impl_IsPrime.l0 p h1 h2 (fun k i => rfl) 102 k 2 (by omega) (by omega) (by omega) (by omega)
      simp only [if_pos h1, Option.bind_some, decide_eq_true h2, if_true, hb, primeB_loop h1 h2 hiff]
    · simp [if_pos h1, decide_eq_false h2, primeB_hi h2]
  · simp [if_neg h1, primeB_lo h1]
theorem spec_mod {p x : Int} (hp : 0 < p) (hp2 : p ≤ 1000000000) : spec_l01Mod.f p x = some (x % p) := by
  unfold spec_l01Mod.f; rw [if_neg (by omega), md hp hp2]
theorem impl_mod {p x : Int} (hp : 0 < p) (hp2 : p ≤ 1000000000) : impl_field_mod.f p x = some (x % p) := by
  unfold impl_field_mod.f; rw [if_neg (by omega), md hp hp2]
theorem hasB_iff {p x : Int} : hasB p x = true ↔ 0 ≤ x ∧ x < p := by unfold hasB; simp
def tlen (l : List Int) : Nat → Nat
  | 0 => 0
  | n + 1 => if l.getD n 0 = 0 then tlen l n else n + 1
def trimL (l : List Int) : List Int := l.take (tlen l l.length)
theorem tlen_le (l : List Int) : ∀ n, tlen l n ≤ n
  | 0 => Nat.le_refl _
  | n + 1 => by unfold tlen; split; (have := tlen_le l n; omega); omega
theorem tlen_take (l : List Int) (m : Nat) : ∀ n, n ≤ m → tlen (l.take m) n = tlen l n
  | 0, _ => rfl
  | n + 1, h => by
    have e : (l.take m).getD n 0 = l.getD n 0 := by simp [List.getD_eq_getElem?_getD, show n < m by omega]
    unfold tlen
    rw [e, tlen_take l m n (by omega)]
theorem own_some (l : List Int) (h : l.length < 17592186044416) : spec_l01Own.f l = some l := by
  simp [spec_l01Own.f, h]
theorem specTrim_loop (l : List Int) (hl : l.length ≤ 1000000000) : ∀ (n k : Nat), n ≤ l.length → n < k → spec_l01Trim.l0 k l (n : Int) = some (l.take (tlen l n))
  | 0, k, h, hk => by
    obtain ⟨k, rfl⟩ : ∃ m, k = m + 1 := ⟨k - 1, by omega⟩
    simp only [spec_l01Trim.l0]
    rw [if_neg (by omega), if_pos (by omega), if_pos (by omega), own_some _ (by rw [List.length_take]; omega)]
    simp [tlen]
  | n + 1, k, h, hk => by
    obtain ⟨k, rfl⟩ : ∃ m, k = m + 1 := ⟨k - 1, by omega⟩
    simp only [spec_l01Trim.l0]
    have hw : wrap64 (((n + 1 : Nat) : Int) - 1) = (n : Int) := by rw [w64 (by omega) (by omega)]; omega
    rw [if_pos (by omega), hw, if_pos (by omega), if_pos (by omega), rd_nat]
    by_cases h0 : l.getD n 0 = 0
    · rw [if_pos h0, specTrim_loop l hl n k (by omega) (by omega)]
      simp only [tlen, if_pos h0]
    · rw [if_neg h0, if_pos (by omega), if_pos (by omega), own_some _ (by rw [List.length_take]; omega), Int.toNat_natCast]
      simp only [tlen, if_neg h0, Option.bind_some]
theorem spec_trim (l : List Int) (hl : l.length ≤ 1000000000) : Ev (fun k => spec_l01Trim.f k l) (trimL l) :=
  ⟨l.length + 2, fun k hk => specTrim_loop l hl l.length k (Nat.le_refl _) (by omega)⟩
theorem implTrim_loop : ∀ (n k : Nat) (l : List Int), l.length = n → n ≤ 1000000000 → n < k → impl_trimmed.l0 k l = some (trimL l)
  | 0, k, l, h, hl, hk => by
    obtain ⟨k, rfl⟩ : ∃ m, k = m + 1 := ⟨k - 1, by omega⟩
    simp only [impl_trimmed.l0]
    rw [if_neg (by omega)]
    simp [trimL, h, List.eq_nil_of_length_eq_zero h]
  | n + 1, k, l, h, hl, hk => by
    obtain ⟨k, rfl⟩ : ∃ m, k = m + 1 := ⟨k - 1, by omega⟩
    simp only [impl_trimmed.l0]
    have hw : wrap64 ((l.length : Int) - 1) = (n : Int) := by rw [w64 (by omega) (by omega)]; omega
    rw [if_pos (by omega), hw, if_pos (by omega), if_pos (by omega), rd_nat, Int.toNat_natCast]
    by_cases h0 : l.getD n 0 = 0
    · rw [if_pos h0, if_pos (by omega), implTrim_loop n k (l.take n) (by simp; omega) (by omega) (by omega)]
      simp only [trimL, h, tlen, if_pos h0]
      rw [show (l.take n).length = n by simp [h], tlen_take l n n (Nat.le_refl _), List.take_take]
      congr 2
      have := tlen_le l n
      omega
    · rw [if_neg h0]
      simp only [trimL, h, tlen, if_neg h0]
      rw [List.take_of_length_le (by omega)]
theorem impl_trim (l : List Int) (hl : l.length ≤ 1000000000) : Ev (fun k => impl_trimmed.f k l) (trimL l) :=
  ⟨l.length + 2, fun k hk => implTrim_loop l.length k l rfl hl (by omega)⟩
theorem trimL_len (l : List Int) : (trimL l).length ≤ l.length := by unfold trimL; rw [List.length_take]; omega
def InR (p : Int) (l : List Int) : Prop := ∀ x ∈ l, 0 ≤ x ∧ x < p
theorem InR.get {p : Int} {l : List Int} (h : InR p l) (hp : 0 < p) (i : Nat) : 0 ≤ l.getD i 0 ∧ l.getD i 0 < p := by
  rcases Nat.lt_or_ge i l.length with hi | hi
  · rw [List.getD_eq_getElem?_getD, List.getElem?_eq_getElem hi]; exact h _ (List.getElem_mem hi)
  · rw [List.getD_eq_getElem?_getD, List.getElem?_eq_none hi]; exact ⟨Int.le_refl _, hp⟩
theorem InR.set {p : Int} {l : List Int} (h : InR p l) (i : Nat) {x : Int} (hx : 0 ≤ x ∧ x < p) : InR p (l.set i x) := by
  intro y hy
  rcases List.mem_or_eq_of_mem_set hy with h' | h'
  · exact h y h'
  · rw [h']; exact hx
theorem InR.take {p : Int} {l : List Int} (h : InR p l) (n : Nat) : InR p (l.take n) := fun x hx => h x (List.mem_of_mem_take hx)
theorem InR.trim {p : Int} {l : List Int} (h : InR p l) : InR p (trimL l) := h.take _
theorem InR.zeros {p : Int} (hp : 0 < p) (n : Nat) : InR p (List.replicate n 0) := fun x hx => by
  have := (List.mem_replicate.1 hx).2; subst this; exact ⟨Int.le_refl _, hp⟩
theorem InR.drop {p : Int} {l : List Int} (h : InR p l) (n : Nat) : InR p (l.drop n) := fun x hx => h x (List.mem_of_mem_drop hx)
theorem InR.nil {p : Int} : InR p [] := fun x hx => by simp at hx
theorem InR.one {p x : Int} (h : 0 ≤ x ∧ x < p) : InR p [x] := fun y hy => by rw [List.mem_singleton.1 hy]; exact h
theorem mul_bd2 {p x y : Int} (hp : p ≤ 10007) (hx : 0 ≤ x ∧ x < p) (hy : 0 ≤ y ∧ y ≤ 100000) : 0 ≤ x * y ∧ x * y ≤ 1000700000 := by
  have := mul_bd (a := 10007) (b := 100000) hx.1 (by omega) hy.1 hy.2; omega
def pr1 (p x : Int) (g : List Int) (i : Nat) : List Int → Nat → Nat → List Int
  | acc, _, 0 => acc
  | acc, j, d + 1 => pr1 p x g i (acc.set (i + j) ((acc.getD (i + j) 0 + x * g.getD j 0) % p)) (j + 1) d
def pr0 (p : Int) (f g : List Int) : List Int → Nat → Nat → List Int
  | acc, _, 0 => acc
  | acc, i, d + 1 => pr0 p f g (pr1 p (f.getD i 0) g i acc 0 g.length) (i + 1) d
def mulW (p : Int) (f g : List Int) : List Int := pr0 p f g (List.replicate (f.length + g.length - 1) 0) 0 f.length
def mulL (p : Int) (f g : List Int) : List Int := if f.length = 0 ∨ g.length = 0 then [] else trimL (mulW p f g)
theorem pr1_len (p x : Int) (g : List Int) (i : Nat) : ∀ d j acc, (pr1 p x g i acc j d).length = acc.length
  | 0, _, _ => rfl
  | d + 1, j, acc => by simp [pr1, pr1_len p x g i d]
theorem pr0_len (p : Int) (f g : List Int) : ∀ d i acc, (pr0 p f g acc i d).length = acc.length
  | 0, _, _ => rfl
  | d + 1, i, acc => by simp [pr0, pr0_len p f g d, pr1_len]
theorem pr1_inR {p x : Int} (hp : 0 < p) (g : List Int) (i : Nat) : ∀ d j acc, InR p acc → InR p (pr1 p x g i acc j d)
  | 0, _, _, h => h
  | d + 1, j, acc, h => pr1_inR hp g i d (j + 1) _ (h.set _ (emod_bd hp))
theorem pr0_inR {p : Int} (hp : 0 < p) (f g : List Int) : ∀ d i acc, InR p acc → InR p (pr0 p f g acc i d)
  | 0, _, _, h => h
  | d + 1, i, acc, h => pr0_inR hp f g d (i + 1) _ (pr1_inR hp g i _ _ _ h)
theorem mulW_len (p : Int) (f g : List Int) : (mulW p f g).length = f.length + g.length - 1 := by simp [mulW, pr0_len]
theorem mulW_inR {p : Int} (hp : 0 < p) (f g : List Int) : InR p (mulW p f g) := pr0_inR hp f g _ _ _ (InR.zeros hp _)
theorem mulL_inR {p : Int} (hp : 0 < p) (f g : List Int) : InR p (mulL p f g) := by
  unfold mulL; split
  · exact InR.nil
  · exact (mulW_inR hp f g).trim
theorem mulL_len (p : Int) (f g : List Int) : (mulL p f g).length ≤ f.length + g.length - 1 := by
  unfold mulL; split
  · simp
  · have := trimL_len (mulW p f g); rw [mulW_len] at this; exact this
theorem spec_step {p : Int} {f g acc : List Int} (k i j : Nat) (hp : 2 ≤ p) (hi : i < f.length) (hj : j < g.length) (hL : i + j < acc.length) (h5 : i + j ≤ 100000)
    (hb : 0 ≤ f.getD i 0 * g.getD j 0 ∧ f.getD i 0 * g.getD j 0 ≤ 1000700000) (ha : 0 ≤ acc.getD (i + j) 0 ∧ acc.getD (i + j) 0 ≤ 100000) :
    spec_l01Times.l1 (k + 1) p f g acc (i : Int) (j : Int) = spec_l01Times.l1 k p f g (acc.set (i + j) ((acc.getD (i + j) 0 + f.getD i 0 * g.getD j 0) % p)) (i : Int) ((j + 1 : Nat) : Int) := by
  have hw : wrap64 ((i : Int) + (j : Int)) = ((i + j : Nat) : Int) := by rw [w64 (by omega) (by omega)]; omega
  have q1 : (j : Int) < (g.length : Int) := by omega
  have q2 : (0 : Int) ≤ ((i + j : Nat) : Int) := by omega
  have q3 : ((i + j : Nat) : Int) < (acc.length : Int) := by omega
  have q4 : (0 : Int) ≤ (i : Int) := by omega
  have q5 : (i : Int) < (f.length : Int) := by omega
  have q6 : (0 : Int) ≤ (j : Int) := by omega
  have q7 : ¬ p = 0 := by omega
  have w1 : wrap64 (f.getD i 0 * g.getD j 0) = f.getD i 0 * g.getD j 0 := w64 (by omega) (by omega)
  have w2 : wrap64 (acc.getD (i + j) 0 + f.getD i 0 * g.getD j 0) = acc.getD (i + j) 0 + f.getD i 0 * g.getD j 0 := w64 (by omega) (by omega)
  have w3 : wrap64 ((j : Int) + 1) = ((j + 1 : Nat) : Int) := wn (by omega)
  have w4 : Int.tmod (acc.getD (i + j) 0 + f.getD i 0 * g.getD j 0) p = (acc.getD (i + j) 0 + f.getD i 0 * g.getD j 0) % p := tmod_nn (by omega)
  simp only [spec_l01Times.l1, hw]
  rw [if_pos q1, if_pos q2, if_pos q3, if_pos q4, if_pos q5, if_pos q6, if_neg q7, rd_nat, rd_nat, rd_nat, w1, w2, w3, w4, Int.toNat_natCast]
theorem impl_step {p : Int} {f g acc : List Int} (k i j : Nat) (hp : 2 ≤ p) (hp2 : p ≤ 10007) (hi : i < f.length) (hj : j < g.length) (hL : i + j < acc.length) (h5 : i + j ≤ 100000)
    (hb : 0 ≤ f.getD i 0 * g.getD j 0 ∧ f.getD i 0 * g.getD j 0 ≤ 1000700000) (ha : 0 ≤ acc.getD (i + j) 0 ∧ acc.getD (i + j) 0 ≤ 100000) (n : Int) :
    impl_field_product.l1 (k + 1) p g acc (i : Int) (f.getD i 0) f n (i : Int) g (g.length : Int) (j : Int) = impl_field_product.l1 k p g (acc.set (i + j) ((acc.getD (i + j) 0 + f.getD i 0 * g.getD j 0) % p)) (i : Int) (f.getD i 0) f n (i : Int) g (g.length : Int) ((j + 1 : Nat) : Int) := by
  have hw : wrap64 ((i : Int) + (j : Int)) = ((i + j : Nat) : Int) := by rw [w64 (by omega) (by omega)]; omega
  have q1 : (j : Int) < (g.length : Int) := by omega
  have q2 : (0 : Int) ≤ ((i + j : Nat) : Int) := by omega
  have q3 : ((i + j : Nat) : Int) < (acc.length : Int) := by omega
  have q6 : (0 : Int) ≤ (j : Int) := by omega
  have w1 : wrap64 (f.getD i 0 * g.getD j 0) = f.getD i 0 * g.getD j 0 := w64 (by omega) (by omega)
  have w2 : wrap64 (acc.getD (i + j) 0 + f.getD i 0 * g.getD j 0) = acc.getD (i + j) 0 + f.getD i 0 * g.getD j 0 := w64 (by omega) (by omega)
  have w3 : wrap64 ((j : Int) + 1) = ((j + 1 : Nat) : Int) := wn (by omega)
  have w4 : impl_field_mod.f p (acc.getD (i + j) 0 + f.getD i 0 * g.getD j 0) = some ((acc.getD (i + j) 0 + f.getD i 0 * g.getD j 0) % p) := impl_mod (by omega) (by omega)
  simp only [impl_field_product.l1, hw]
  rw [if_pos q1, if_pos q6, if_pos q1, if_pos q2, if_pos q3, rd_nat, rd_nat, w1, w2, w3, w4, Int.toNat_natCast, Option.bind_some]
set_option maxHeartbeats 2000000 in
theorem spec_product {p : Int} {f g : List Int} (hp : 2 ≤ p) (hp2 : p ≤ 10007) (hf : f.length ≤ 1000) (hg : g.length ≤ 1000) (rf : InR p f) (rg : InR p g) : Ev (fun k => spec_l01Times.f k p f g) (mulL p f g) := by
  have inner : ∀ (i : Nat) (r : List Int), i < f.length → ∀ d j (acc : List Int), j + d = g.length → acc.length = f.length + g.length - 1 → InR p acc →
      Ev (fun k => spec_l01Times.l0 k p f g (pr1 p (f.getD i 0) g i acc j d) ((i + 1 : Nat) : Int)) r → Ev (fun k => spec_l01Times.l1 k p f g acc (i : Int) (j : Int)) r := by
    intro i r hi d
    induction d with
    | zero =>
      intro j acc h1 h2 h3 ⟨K, h⟩
      refine ⟨K + 1, fun k hk => ?_⟩
      obtain ⟨k, rfl⟩ : ∃ m, k = m + 1 := ⟨k - 1, by omega⟩
      have e := h k (by omega)
      simp only [pr1] at e
      simp only [spec_l01Times.l1]
      rw [if_neg (by omega), wn (by omega), e]
    | succ d ih =>
      intro j acc h1 h2 h3 h
      obtain ⟨K, h⟩ := ih (j + 1) (acc.set (i + j) ((acc.getD (i + j) 0 + f.getD i 0 * g.getD j 0) % p)) (by omega) (by simpa using h2) (h3.set _ (emod_bd (by omega))) h
      refine ⟨K + 1, fun k hk => ?_⟩
      obtain ⟨k, rfl⟩ : ∃ m, k = m + 1 := ⟨k - 1, by omega⟩
      have e := h k (by omega)
      simp only at e
      have hb := mul_bd2 hp2 (rf.get (by omega) i) (y := g.getD j 0) (by have := rg.get (by omega) j; omega)
      have ha := h3.get (by omega) (i + j)
      exact (spec_step k i j hp hi (by omega) (by omega) (by omega) hb ⟨ha.1, by omega⟩).trans e
  have outer : ∀ d i (acc : List Int), i + d = f.length → acc.length = f.length + g.length - 1 → InR p acc → Ev (fun k => spec_l01Times.l0 k p f g acc (i : Int)) (trimL (pr0 p f g acc i d)) := by
    intro d
    induction d with
    | zero =>
      intro i acc h1 h2 h3
      obtain ⟨K, h⟩ := spec_trim acc (by omega)
      refine ⟨K + 1, fun k hk => ?_⟩
      obtain ⟨k, rfl⟩ : ∃ m, k = m + 1 := ⟨k - 1, by omega⟩
      have e := h k (by omega)
      simp only at e
      simp only [spec_l01Times.l0]
      rw [if_neg (by omega), e]
      simp [pr0]
    | succ d ih =>
      intro i acc h1 h2 h3
      have hin := inner i _ (by omega) g.length 0 acc (by omega) h2 h3 (ih (i + 1) (pr1 p (f.getD i 0) g i acc 0 g.length) (by omega) (by rw [pr1_len]; exact h2) (pr1_inR (by omega) g i _ _ _ h3))
      obtain ⟨K, h⟩ := hin
      refine ⟨K + 1, fun k hk => ?_⟩
      obtain ⟨k, rfl⟩ : ∃ m, k = m + 1 := ⟨k - 1, by omega⟩
      have e := h k (by omega)
      simp only [Int.natCast_zero] at e
      simp only [spec_l01Times.l0]
      rw [if_pos (by omega), e]
      rfl
  unfold mulL
  by_cases h0 : f.length = 0 ∨ g.length = 0
  · rw [if_pos h0]
    refine ⟨1, fun k hk => ?_⟩
    obtain ⟨k, rfl⟩ : ∃ m, k = m + 1 := ⟨k - 1, by omega⟩
    simp only [spec_l01Times.f]
    by_cases hf0 : (f.length : Int) = 0
    · rw [if_pos hf0]; simp only [spec_l01Times.j0, if_true]
    · rw [if_neg hf0]
      have hz : ((g.length : Int) == 0) = true := beq_iff_eq.mpr (by omega)
      rw [hz]; simp only [spec_l01Times.j0, if_true]
  · rw [if_neg h0]
    obtain ⟨K, h⟩ := outer f.length 0 (List.replicate (f.length + g.length - 1) 0) (by omega) (by simp) (InR.zeros (by omega) _)
    refine ⟨K + 1, fun k hk => ?_⟩
    obtain ⟨k, rfl⟩ : ∃ m, k = m + 1 := ⟨k - 1, by omega⟩
    have e := h k (by omega)
    simp only [Int.natCast_zero] at e
    have hz : ((g.length : Int) == 0) = false := beq_eq_false_iff_ne.mpr (by omega)
    have hw : wrap64 (wrap64 ((f.length : Int) + (g.length : Int)) - 1) = ((f.length + g.length - 1 : Nat) : Int) := by rw [w64 (x := (f.length : Int) + (g.length : Int)) (by omega) (by omega), w64 (by omega) (by omega)]; omega
    simp only [spec_l01Times.f]
    rw [if_neg (by omega), hz]
    simp only [spec_l01Times.j0, hw, Bool.false_eq_true, if_false]
    rw [if_pos (by omega), if_pos (by omega), Int.toNat_natCast, e]
    rfl
set_option maxHeartbeats 2000000 in
theorem impl_product {p : Int} {f g : List Int} (hp : 2 ≤ p) (hp2 : p ≤ 10007) (hf : f.length ≤ 1000) (hg : g.length ≤ 1000) (rf : InR p f) (rg : InR p g) : Ev (fun k => impl_field_product.f k p f g) (mulL p f g) := by
  have inner : ∀ (i : Nat) (r : List Int), i < f.length → ∀ d j (acc : List Int), j + d = g.length → acc.length = f.length + g.length - 1 → InR p acc →
      Ev (fun k => impl_field_product.l0 k p g (pr1 p (f.getD i 0) g i acc j d) f (f.length : Int) ((i + 1 : Nat) : Int)) r → Ev (fun k => impl_field_product.l1 k p g acc (i : Int) (f.getD i 0) f (f.length : Int) (i : Int) g (g.length : Int) (j : Int)) r := by
    intro i r hi d
    induction d with
    | zero =>
      intro j acc h1 h2 h3 ⟨K, h⟩
      refine ⟨K + 1, fun k hk => ?_⟩
      obtain ⟨k, rfl⟩ : ∃ m, k = m + 1 := ⟨k - 1, by omega⟩
      have e := h k (by omega)
      simp only [pr1] at e
      simp only [impl_field_product.l1]
      rw [if_neg (by omega), wn (by omega), e]
    | succ d ih =>
      intro j acc h1 h2 h3 h
      obtain ⟨K, h⟩ := ih (j + 1) (acc.set (i + j) ((acc.getD (i + j) 0 + f.getD i 0 * g.getD j 0) % p)) (by omega) (by simpa using h2) (h3.set _ (emod_bd (by omega))) h
      refine ⟨K + 1, fun k hk => ?_⟩
      obtain ⟨k, rfl⟩ : ∃ m, k = m + 1 := ⟨k - 1, by omega⟩
      have e := h k (by omega)
      simp only at e
      have hb := mul_bd2 hp2 (rf.get (by omega) i) (y := g.getD j 0) (by have := rg.get (by omega) j; omega)
      have ha := h3.get (by omega) (i + j)
      exact (impl_step k i j hp hp2 hi (by omega) (by omega) (by omega) hb ⟨ha.1, by omega⟩ _).trans e
  have outer : ∀ d i (acc : List Int), i + d = f.length → acc.length = f.length + g.length - 1 → InR p acc → Ev (fun k => impl_field_product.l0 k p g acc f (f.length : Int) (i : Int)) (trimL (pr0 p f g acc i d)) := by
    intro d
    induction d with
    | zero =>
      intro i acc h1 h2 h3
      obtain ⟨K, h⟩ := impl_trim acc (by omega)
      refine ⟨K + 1, fun k hk => ?_⟩
      obtain ⟨k, rfl⟩ : ∃ m, k = m + 1 := ⟨k - 1, by omega⟩
      have e := h k (by omega)
      simp only at e
      simp only [impl_field_product.l0]
      rw [if_neg (by omega), e]
      simp [pr0]
    | succ d ih =>
      intro i acc h1 h2 h3
      have hin := inner i _ (by omega) g.length 0 acc (by omega) h2 h3 (ih (i + 1) (pr1 p (f.getD i 0) g i acc 0 g.length) (by omega) (by rw [pr1_len]; exact h2) (pr1_inR (by omega) g i _ _ _ h3))
      obtain ⟨K, h⟩ := hin
      refine ⟨K + 1, fun k hk => ?_⟩
      obtain ⟨k, rfl⟩ : ∃ m, k = m + 1 := ⟨k - 1, by omega⟩
      have e := h k (by omega)
      simp only [Int.natCast_zero] at e
      simp only [impl_field_product.l0]
      rw [if_pos (by omega), if_pos (by omega), if_pos (by omega), rd_nat, e]
      rfl
  unfold mulL
  by_cases h0 : f.length = 0 ∨ g.length = 0
  · rw [if_pos h0]
    refine ⟨1, fun k hk => ?_⟩
    obtain ⟨k, rfl⟩ : ∃ m, k = m + 1 := ⟨k - 1, by omega⟩
    simp only [impl_field_product.f]
    by_cases hf0 : (f.length : Int) = 0
    · rw [if_pos hf0]; simp only [impl_field_product.j0, if_true]
    · rw [if_neg hf0]
      have hz : ((g.length : Int) == 0) = true := beq_iff_eq.mpr (by omega)
      rw [hz]; simp only [impl_field_product.j0, if_true]
  · rw [if_neg h0]
    obtain ⟨K, h⟩ := outer f.length 0 (List.replicate (f.length + g.length - 1) 0) (by omega) (by simp) (InR.zeros (by omega) _)
    refine ⟨K + 1, fun k hk => ?_⟩
    obtain ⟨k, rfl⟩ : ∃ m, k = m + 1 := ⟨k - 1, by omega⟩
    have e := h k (by omega)
    simp only [Int.natCast_zero] at e
    have hz : ((g.length : Int) == 0) = false := beq_eq_false_iff_ne.mpr (by omega)
    have hw : wrap64 (wrap64 ((f.length : Int) + (g.length : Int)) - 1) = ((f.length + g.length - 1 : Nat) : Int) := by rw [w64 (x := (f.length : Int) + (g.length : Int)) (by omega) (by omega), w64 (by omega) (by omega)]; omega
    simp only [impl_field_product.f]
    rw [if_neg (by omega), hz]
    simp only [impl_field_product.j0, hw, Bool.false_eq_true, if_false]
    rw [if_pos (by omega), if_pos (by omega), Int.toNat_natCast, e]
    rfl
theorem in_any (x a b : Int) : spec_l01In.f x a b = some (decide (a ≤ x) && decide (x ≤ b)) := by
  unfold spec_l01In.f; by_cases h : x ≥ a
  · rw [if_pos h, decide_eq_true h, Bool.true_and]
  · rw [if_neg h, decide_eq_false h, Bool.false_and]
theorem in_has {p : Int} (hp : IsP p) (x : Int) : spec_l01In.f x 0 (wrap64 (p - 1)) = some (hasB p x) := by
  rw [in_any, w64 (by have := hp.1; omega) (by have := hp.2.1; omega)]; unfold hasB; congr 2; exact decide_eq_decide.2 (by omega)
theorem _root_.Go.Proofs.Ytfbehafhiialcaa.Num.IsP.p2 {p : Int} (h : IsP p) : 2 ≤ p := h.1
theorem _root_.Go.Proofs.Ytfbehafhiialcaa.Num.IsP.pm {p : Int} (h : IsP p) : p ≤ 10007 := h.2.1
theorem _root_.Go.Proofs.Ytfbehafhiialcaa.Num.IsP.p0 {p : Int} (h : IsP p) : 0 < p := by have := h.1; omega
/-- the numbers of a list, 0 behind its end -/
def co (l : List Int) (i : Nat) : Int := l.getD i 0
theorem co_ge {l : List Int} {i : Nat} (h : l.length ≤ i) : co l i = 0 := by simp [co, List.getD_eq_getElem?_getD, h]
theorem co_take {l : List Int} {n i : Nat} : co (l.take n) i = if i < n then co l i else 0 := by
  unfold co
  simp only [List.getD_eq_getElem?_getD, List.getElem?_take]
  split <;> rfl
/-- behind the trimmed part there are noughts alone -/
theorem tlen_zero (l : List Int) : ∀ n i, tlen l n ≤ i → i < n → l.getD i 0 = 0
  | 0, i, _, h => by omega
  | n + 1, i, h1, h2 => by
    unfold tlen at h1
    split at h1
    · rename_i h0
      by_cases e : i = n
      · subst e; exact h0
      · exact tlen_zero l n i h1 (by omega)
    · omega
theorem tlen_last (l : List Int) : ∀ n, tlen l n = 0 ∨ l.getD (tlen l n - 1) 0 ≠ 0
  | 0 => .inl rfl
  | n + 1 => by
    unfold tlen
    split
    · exact tlen_last l n
    · right; simpa using ‹_›
theorem trimL_length (l : List Int) : (trimL l).length = tlen l l.length := by
  unfold trimL; rw [List.length_take, Nat.min_eq_left (tlen_le _ _)]
theorem co_trim (l : List Int) (i : Nat) : co (trimL l) i = co l i := by
  unfold trimL
  rw [co_take]
  split
  · rfl
  · rename_i h
    by_cases hi : i < l.length
    · exact (tlen_zero l l.length i (by omega) hi).symm
    · exact (co_ge (by omega)).symm
/-- a list without noughts at its end -/
def Nz (l : List Int) : Prop := l.length = 0 ∨ co l (l.length - 1) ≠ 0
theorem Nz.trim (l : List Int) : Nz (trimL l) := by
  unfold Nz
  rw [co_trim, trimL_length]
  exact tlen_last l l.length
def ofL (p : Int) (l : List Int) : Nat → List Int
  | 0 => [1]
  | n + 1 => mulL p (ofL p l n) [(-(l.getD n 0)) % p, 1]
theorem ofL_len (p : Int) (l : List Int) : ∀ n, (ofL p l n).length ≤ n + 1
  | 0 => by simp [ofL]
  | n + 1 => by
    have h := mulL_len p (ofL p l n) [(-(l.getD n 0)) % p, 1]
    have := ofL_len p l n
    simp only [List.length_cons, List.length_nil] at h
    simp only [ofL]; omega
theorem ofL_inR {p : Int} (hp : 2 ≤ p) (l : List Int) : ∀ n, InR p (ofL p l n)
  | 0 => InR.one (by omega)
  | n + 1 => mulL_inR (by omega) _ _
theorem lin_inR {p : Int} (hp : 2 ≤ p) (r : Int) : InR p [(-r) % p, 1] := fun y hy => by
  rcases List.mem_cons.1 hy with rfl | hy
  · exact emod_bd (by omega)
  · rw [List.mem_singleton.1 hy]; omega
theorem spec_numbers {p : Int} (hp : IsP p) (l : List Int) (hl : l.length ≤ 1000000000) : Ev (fun k => spec_l02Numbers.f k p l) (l.all (hasB p)) := by
  have loop : ∀ d i, i + d = l.length → Ev (fun k => spec_l02Numbers.l0 k p l (i : Int)) ((l.drop i).all (hasB p)) := by
    intro d
    induction d with
    | zero => intro i h; refine Ev.succ ?_; simp (disch := omega) only [spec_l02Numbers.l0, if_neg, List.drop_of_length_le]; exact Ev.now _
    | succ d ih =>
      intro i h
      have hi := ih (i + 1) (by omega)
      refine Ev.succ ?_
      rw [List.drop_eq_getElem_cons (show i < l.length by omega), List.all_cons]
      simp (disch := omega) only [spec_l02Numbers.l0, if_pos, in_has hp, Option.bind_some, wp1, rd_lt l i (show i < l.length by omega)]
      cases hb : hasB p (l[i]'(by omega)) with
      | true => simp only [if_true, Bool.true_and]; exact hi
      | false => simp only [Bool.false_eq_true, if_false, Bool.false_and]; exact Ev.now _
  have h := loop l.length 0 (by omega)
  simp only [spec_l02Numbers.f]
  exact h
noncomputable def arNum (p : Int) (l : List Int) (a b : Int) : Bool := primeB p && (withinB l.length a b && l.all (hasB p))
theorem impl_numbers (p : Int) (l : List Int) (a b : Int) : Ev (fun k => impl_areNumbers.f k p l a b) (arNum p l a b) := by
  simp only [impl_areNumbers.f]
  exact Ev.bind (impl_prime p) (Ev.now _)
theorem spec_of {p : Int} {l : List Int} (hp : IsP p) (hl : l.length ≤ 24) (hr : InR p l) : Ev (fun k => spec_l06Of.f k p l) (ofL p l l.length) := by
  have loop : ∀ d i, i + d = l.length → Ev (fun k => spec_l06Of.l0 k p l (ofL p l i) (i : Int)) (ofL p l l.length) := by
    intro d
    induction d with
    | zero => intro i h; refine Ev.succ ?_; simp (disch := omega) only [spec_l06Of.l0, if_neg]; rw [show i = l.length by omega]; exact Ev.now _
    | succ d ih =>
      intro i h
      have hi := ih (i + 1) (by omega)
      have hg := hr.get hp.p0 i
      have hln := ofL_len p l i
      have h2 := hp.pm
      refine Ev.succ ?_
      simp (disch := omega) only [spec_l06Of.l0, if_pos, rd_n, wp1, w64, spec_mod hp.p0, Option.bind_some]
      exact Ev.bind (spec_product hp.p2 hp.pm (by omega) (by simp) (ofL_inR hp.p2 l i) (lin_inR hp.p2 _)) hi
  have h := loop l.length 0 (by omega)
  simp only [spec_l06Of.f]
  exact h
theorem impl_of {p : Int} {l : List Int} (hp : IsP p) (hl : l.length ≤ 24) (hr : InR p l) : Ev (fun k => impl_field_ofRoots.f k p l) (ofL p l l.length) := by
  have loop : ∀ d i, i + d = l.length → Ev (fun k => impl_field_ofRoots.l0 k p (ofL p l i) l (l.length : Int) (i : Int)) (ofL p l l.length) := by
    intro d
    induction d with
    | zero => intro i h; refine Ev.succ ?_; simp (disch := omega) only [impl_field_ofRoots.l0, if_neg]; rw [show i = l.length by omega]; exact Ev.now _
    | succ d ih =>
      intro i h
      have hi := ih (i + 1) (by omega)
      have hg := hr.get hp.p0 i
      have hln := ofL_len p l i
      have h2 := hp.pm
      refine Ev.succ ?_
      simp (disch := omega) only [impl_field_ofRoots.l0, if_pos, rd_n, wp1, w64, impl_mod hp.p0, Option.bind_some]
      exact Ev.bind (impl_product hp.p2 hp.pm (by omega) (by simp) (ofL_inR hp.p2 l i) (lin_inR hp.p2 _)) hi
  have h := loop l.length 0 (by omega)
  simp only [impl_field_ofRoots.f]
  exact h
end Go.Proofs.Ytfbehafhiialcaa.H
