/- Plain laws that the claim of FnExactJacobiOfSteps reaches: numbers modulo a prime, lists, and what the printed functions answer. -/
import Derived.RowKit
import Derived.Test.YtepigphelclpcaaWWords
import Derived.Test.YtepigphelclpcaaWMore
import Derived.Test.YtepigphelclpcaaMabcd1
import Derived.Test.YtepigphelclpcaaMc2
import Derived.Test.YtepigphelclpcaaMabc1
import Derived.Test.YtepigphelclpcaaMc1
import Derived.Test.YtepigphelclpcaaMcd1
import Derived.Test.YtepigphelclpcaaMbc1
import Derived.Test.YtepigphelclpcaaMc3
import Derived.Test.YtepigphelclpcaaMc4
import Derived.Test.YtepigphelclpcaaMbc2
set_option linter.unusedVariables false
set_option linter.unusedSimpArgs false
namespace Go.Proofs.Ytepigphelclpcaa.Num
open Go.RowKit
theorem w64 {x : Int} (h1 : -9223372036854775808 ≤ x) (h2 : x ≤ 9223372036854775807) : wrap64 x = x := by
  unfold wrap64; omega
theorem tmod_nn {a b : Int} (h : 0 ≤ a) : Int.tmod a b = a % b := Int.tmod_eq_emod_of_nonneg h
theorem tmod_lt' {x p : Int} (hp : 0 < p) : Int.tmod x p < p ∧ -p < Int.tmod x p := by
  constructor
  · exact Int.tmod_lt_of_pos x hp
  · have h := Int.tmod_lt_of_pos (-x) hp
    rw [Int.neg_tmod] at h
    omega
/-- the program's way to a number of the field -/
theorem md {x p : Int} (hp : 0 < p) (hp2 : p ≤ 1000000000) : Int.tmod (wrap64 (Int.tmod x p + p)) p = x % p := by
  obtain ⟨h1, h2⟩ := tmod_lt' (x := x) hp
  rw [w64 (by omega) (by omega), tmod_nn (by omega), Int.tmod_def]
  have : x - p * x.tdiv p + p = x + p * (1 - x.tdiv p) := by
    rw [Int.mul_sub]; omega
  rw [this, Int.add_mul_emod_self_left]
theorem emod_bd {x p : Int} (hp : 0 < p) : 0 ≤ x % p ∧ x % p < p := ⟨Int.emod_nonneg _ (by omega), Int.emod_lt_of_pos _ hp⟩
theorem mul_bd {x y a b : Int} (hx0 : 0 ≤ x) (hx : x ≤ a) (hy0 : 0 ≤ y) (hy : y ≤ b) : 0 ≤ x * y ∧ x * y ≤ a * b :=
  ⟨Int.mul_nonneg hx0 hy0, Int.mul_le_mul hx hy hy0 (by omega)⟩
/-- what trial division tells -/
def Pr (p : Nat) : Prop := 2 ≤ p ∧ ∀ d, d ∣ p → d = 1 ∨ d = p
theorem Pr.of_trial {p : Nat} (h2 : 2 ≤ p) (h : ∀ d, 2 ≤ d → d * d ≤ p → p % d ≠ 0) : Pr p := by
  refine ⟨h2, fun d hd => ?_⟩
  obtain ⟨e, he⟩ := hd
  have hd0 : 0 < d := by rcases Nat.eq_zero_or_pos d with h0 | h0; (subst h0; simp at he; omega); exact h0
  have he0 : 0 < e := by rcases Nat.eq_zero_or_pos e with h0 | h0; (subst h0; simp at he; omega); exact h0
  rcases Nat.lt_or_ge d 2 with h1 | h1
  · left; omega
  rcases Nat.lt_or_ge e 2 with h3 | h3
  · right
    have : e = 1 := by omega
    subst this; simpa using he.symm
  · exfalso
    rcases Nat.le_total d e with hle | hle
    · refine h d h1 ?_ ?_
      · rw [he]; exact Nat.mul_le_mul_left d hle
      · rw [he]; exact Nat.mul_mod_right d e
    · refine h e h3 ?_ ?_
      · rw [he]; exact Nat.mul_le_mul_right e hle
      · rw [he]; exact Nat.mul_mod_left d e
/-- is it a prime of the program's? -/
def IsP (p : Int) : Prop := 2 ≤ p ∧ p ≤ 10007 ∧ Pr p.toNat
open Classical in
/-- the same as a bool -/
noncomputable def primeB (p : Int) : Bool := decide (IsP p)
theorem primeB_iff {p : Int} : primeB p = true ↔ IsP p := by
  unfold primeB; exact @decide_eq_true_iff _ (Classical.propDecidable _)
theorem prime_loop (l : Nat → Int → Int → Option Bool) (p : Int) (hp : 2 ≤ p) (hp2 : p ≤ 10007)
    (hl : ∀ k i, l (k + 1) p i = if wrap64 (i * i) ≤ p then (if i = 0 then none else (if Int.tmod p i = 0 then some false else l k p (wrap64 (i + 1)))) else some true)
    (d : Nat) : ∀ (k : Nat) (i : Int), 2 ≤ i → i ≤ 101 → 101 - i < d → d < k →
      ∃ b, l k p i = some b ∧ (b = true ↔ ∀ j : Int, i ≤ j → j * j ≤ p → p % j ≠ 0) := by
  induction d with
  | zero => intro k i h1 h2 h3; omega
  | succ d ih =>
    intro k i h1 h2 h3 hk
    obtain ⟨k, rfl⟩ : ∃ m, k = m + 1 := ⟨k - 1, by omega⟩
    rw [hl]
    have hb := mul_bd (a := 101) (b := 101) (x := i) (y := i) (by omega) h2 (by omega) h2
    rw [w64 (by omega) (by omega), w64 (x := i + 1) (by omega) (by omega)]
    by_cases hle : i * i ≤ p
    · have hi : i ≤ 100 := by
        rcases Int.lt_or_le 100 i with h | h
        · have := Int.mul_le_mul (a := 101) (b := 101) (c := i) (d := i) (by omega) (by omega) (by omega) (by omega); omega
        · exact h
      rw [if_pos hle, if_neg (by omega), tmod_nn (by omega)]
      by_cases hd : p % i = 0
      · rw [if_pos hd]
        exact ⟨false, rfl, by simp; exact ⟨i, Int.le_refl _, hle, hd⟩⟩
      · rw [if_neg hd]
        obtain ⟨b, hb1, hb2⟩ := ih k (i + 1) (by omega) (by omega) (by omega) (by omega)
        refine ⟨b, hb1, hb2.trans ⟨fun h j hj hjj => ?_, fun h j hj hjj => h j (by omega) hjj⟩⟩
        by_cases e : j = i
        · subst e; exact hd
        · exact h j (by omega) hjj
    · rw [if_neg hle]
      refine ⟨true, rfl, by simp; intro j hj hjj; exfalso; apply hle; exact Int.le_trans (Int.mul_le_mul hj hj (by omega) (by omega)) hjj⟩
theorem trial_iff {p : Int} (hp : 2 ≤ p) : (∀ j : Int, 2 ≤ j → j * j ≤ p → p % j ≠ 0) ↔ Pr p.toNat := by
  constructor
  · intro h
    refine Pr.of_trial (by omega) fun d hd hdd h0 => ?_
    refine h d (by omega) ?_ ?_
    · have : ((d * d : Nat) : Int) ≤ p := by omega
      simpa using this
    · have : ((p.toNat % d : Nat) : Int) = 0 := by rw [h0]; rfl
      rw [Int.natCast_emod, Int.toNat_of_nonneg (by omega)] at this
      exact this
  · intro h j hj hjj h0
    obtain ⟨d, rfl⟩ : ∃ d : Nat, j = d := ⟨j.toNat, by omega⟩
    obtain ⟨n, rfl⟩ : ∃ n : Nat, p = n := ⟨p.toNat, by omega⟩
    simp only [Int.toNat_natCast] at h
    have hdv : d ∣ n := by
      apply Nat.dvd_of_mod_eq_zero
      have : ((n % d : Nat) : Int) = 0 := by rw [Int.natCast_emod]; exact h0
      omega
    have hn : d * d ≤ n := by
      have : ((d * d : Nat) : Int) ≤ n := by simpa using hjj
      omega
    rcases h.2 d hdv with e | e
    · omega
    · subst e
      have : d * 2 ≤ d * d := Nat.mul_le_mul_left d (by omega)
      omega
theorem primeB_loop {p : Int} {b : Bool} (h1 : 2 ≤ p) (h2 : p ≤ 10007) (h : b = true ↔ ∀ j : Int, 2 ≤ j → j * j ≤ p → p % j ≠ 0) : b = primeB p := by
  rw [Bool.eq_iff_iff, primeB_iff, h, trial_iff h1]
  exact ⟨fun h => ⟨h1, h2, h⟩, fun h => h.2.2⟩
theorem primeB_lo {p : Int} (h : ¬ 2 ≤ p) : primeB p = false := by
  rw [Bool.eq_false_iff]; intro e; exact h (primeB_iff.1 e).1
theorem primeB_hi {p : Int} (h : ¬ p ≤ 10007) : primeB p = false := by
  rw [Bool.eq_false_iff]; intro e; exact h (primeB_iff.1 e).2.1
end Go.Proofs.Ytepigphelclpcaa.Num
namespace Go.Proofs.Ytepigphelclpcaa.H
open Go.RowKit Go.Proofs.YtepigphelclpcaaW.PrintWords Go.Proofs.YtepigphelclpcaaW.PrintLast Go.Proofs.YtepigphelclpcaaW.PrintMore Go.Proofs.Ytepigphelclpcaa.Num
theorem Ev.succ {α : Type} {g : Nat → Option α} {r : α} (h : Ev (fun k => g (k + 1)) r) : Ev g r := by
  obtain ⟨K, h⟩ := h
  refine ⟨K + 1, fun k hk => ?_⟩
  obtain ⟨m, rfl⟩ : ∃ m, k = m + 1 := ⟨k - 1, by omega⟩
  exact h m (by omega)
theorem wp1 {i : Nat} (h : i ≤ 1000000000000) : wrap64 ((i : Int) + 1) = ((i + 1 : Nat) : Int) := by rw [w64 (by omega) (by omega)]; omega
theorem rd_n (l : List Int) (i : Nat) : rd l (i : Int) = l.getD i 0 := by simp [rd]
theorem rd_lt (l : List Int) (i : Nat) (h : i < l.length) : rd l (i : Int) = l[i] := by simp [rd, h]
theorem wn {i : Nat} (h : i ≤ 1000000000000) : wrap64 ((i : Int) + 1) = ((i + 1 : Nat) : Int) := by rw [w64 (by omega) (by omega)]; omega
theorem toI_loop (l : List Int) (hl : l.length ≤ 1000000000) (d : Nat) : ∀ (k i : Nat) (acc : List Int), i + d = l.length → acc.length = l.length → acc.take i = l.take i → d < k → laws_toInt64S.l0 k l acc (i : Int) = some l := by
  induction d with
  | zero =>
    intro k i acc h1 h2 h3 hk
    obtain ⟨k, rfl⟩ : ∃ m, k = m + 1 := ⟨k - 1, by omega⟩
    simp only [laws_toInt64S.l0]
    rw [if_neg (by omega)]
    have : acc = l := by
      have e1 : acc.take i = acc := List.take_of_length_le (by omega)
      have e2 : l.take i = l := List.take_of_length_le (by omega)
      rw [e1, e2] at h3; exact h3
    rw [this]
  | succ d ih =>
    intro k i acc h1 h2 h3 hk
    obtain ⟨k, rfl⟩ : ∃ m, k = m + 1 := ⟨k - 1, by omega⟩
    simp only [laws_toInt64S.l0]
    rw [if_pos (by omega), if_pos (by omega), if_pos (by omega), wn (by omega), rd_lt l i (by omega), Int.toNat_natCast]
    refine ih k (i + 1) _ (by omega) (by simpa using h2) ?_ (by omega)
    rw [List.take_succ_eq_append_getElem (by simp; omega), List.take_succ_eq_append_getElem (by omega), List.getElem_set_self, List.take_set_of_le (Nat.le_refl i), h3]
theorem toI_same (l : List Int) (hl : l.length ≤ 1048576) : ∃ K, ∀ k, K ≤ k → laws_toInt64S.f k l = some l := by
  refine ⟨l.length + 2, fun k hk => ?_⟩
  unfold laws_toInt64S.f
  rw [if_pos (by omega), if_pos (by omega)]
  exact toI_loop l (by omega) l.length k 0 _ (by omega) (by simp) (by simp) (by omega)
theorem eqI_loop (l : List Int) (hl : l.length ≤ 1000000000) (d : Nat) : ∀ (k i : Nat), i + d = l.length → d < k → laws_eqInt64S.l0 k l l (i : Int) = some true := by
  induction d with
  | zero =>
    intro k i h1 hk
    obtain ⟨k, rfl⟩ : ∃ m, k = m + 1 := ⟨k - 1, by omega⟩
    simp only [laws_eqInt64S.l0]
    rw [if_neg (by omega)]
  | succ d ih =>
    intro k i h1 hk
    obtain ⟨k, rfl⟩ : ∃ m, k = m + 1 := ⟨k - 1, by omega⟩
    simp only [laws_eqInt64S.l0]
    rw [if_pos (by omega), if_pos (by omega), if_pos (by omega), if_pos trivial, wn (by omega)]
    exact ih k (i + 1) (by omega) (by omega)
theorem eqI_same (l : List Int) (hl : l.length ≤ 2000000) : ∃ K, ∀ k, K ≤ k → laws_eqInt64S.f k l l = some true := by
  refine ⟨l.length + 2, fun k hk => ?_⟩
  unfold laws_eqInt64S.f
  rw [if_pos rfl]
  exact eqI_loop l (by omega) l.length k 0 (by omega) (by omega)
/-- n, n + 1, .. : d of them -/
def up (n : Int) : Nat → List Int
  | 0 => []
  | d + 1 => n :: up (n + 1) d
theorem up_len : ∀ (d : Nat) (n : Int), (up n d).length = d
  | 0, _ => rfl
  | d + 1, n => by simp [up, up_len d]
theorem mark_loop (d : Nat) : ∀ (k i : Nat) (l : List Int) (n : Int), i + d = l.length → l.length ≤ 1000000000 → 0 ≤ n → n + d ≤ 1000000000000 → d < k → laws_markInt64S.l0 k l n (i : Int) = some (n + d, l.take i ++ up n d) := by
  induction d with
  | zero =>
    intro k i l n h1 h2 h3 h4 hk
    obtain ⟨k, rfl⟩ : ∃ m, k = m + 1 := ⟨k - 1, by omega⟩
    simp only [laws_markInt64S.l0]
    rw [if_neg (by omega), List.take_of_length_le (by omega)]
    simp [up]
  | succ d ih =>
    intro k i l n h1 h2 h3 h4 hk
    obtain ⟨k, rfl⟩ : ∃ m, k = m + 1 := ⟨k - 1, by omega⟩
    simp only [laws_markInt64S.l0]
    have hw : wrap64 (n + 1) = n + 1 := w64 (by omega) (by omega)
    rw [if_pos (by omega), if_pos (by omega), wn (by omega), Int.toNat_natCast, hw]
    rw [ih k (i + 1) _ (n + 1) (by simp; omega) (by simpa using h2) (by omega) (by omega) (by omega)]
    rw [List.take_succ_eq_append_getElem (by simp; omega), List.getElem_set_self, List.take_set_of_le (Nat.le_refl i)]
    simp only [up, List.append_assoc, List.cons_append, List.nil_append]
    congr 2
    omega
theorem mark_up (l : List Int) (hl : l.length ≤ 2000000) (n : Int) (h0 : 0 ≤ n) (h1 : n ≤ 100000000) : ∃ K, ∀ k, K ≤ k → laws_markInt64S.f k l n = some (n + l.length, up n l.length) := by
  refine ⟨l.length + 2, fun k hk => ?_⟩
  unfold laws_markInt64S.f
  have := mark_loop l.length k 0 l n (by omega) (by omega) h0 (by omega) (by omega)
  simpa using this
theorem up_get : ∀ (d i : Nat) (n : Int) (h : i < d), (up n d)[i]'(by rw [up_len]; exact h) = n + i
  | d + 1, 0, n, _ => by simp [up]
  | d + 1, i + 1, n, h => by simp only [up, List.getElem_cons_succ]; rw [up_get d i (n + 1) (by omega)]; omega
theorem held_loop (m : Nat) (n0 : Int) (hm : m ≤ 1000000000) (h0 : 0 ≤ n0) (hb : n0 ≤ 1000000000) (d : Nat) : ∀ (k i : Nat), i + d = m → d < k → laws_heldInt64S.l0 k (up n0 m) (n0 + i) (i : Int) = some (n0 + m) := by
  induction d with
  | zero =>
    intro k i h1 hk
    obtain ⟨k, rfl⟩ : ∃ m, k = m + 1 := ⟨k - 1, by omega⟩
    simp only [laws_heldInt64S.l0]
    rw [if_neg (by rw [up_len]; omega)]
    congr 2; omega
  | succ d ih =>
    intro k i h1 hk
    obtain ⟨k, rfl⟩ : ∃ m, k = m + 1 := ⟨k - 1, by omega⟩
    simp only [laws_heldInt64S.l0]
    have hw : wrap64 (n0 + i + 1) = n0 + ((i + 1 : Nat) : Int) := by rw [w64 (by omega) (by omega)]; omega
    rw [if_pos (by rw [up_len]; omega), if_pos (by omega), rd_lt _ _ (by rw [up_len]; omega), up_get _ _ _ (by omega), if_pos rfl, wn (by omega), hw]
    exact ih k (i + 1) (by omega) (by omega)
theorem held_up (m : Nat) (hm : m ≤ 2000000) (n : Int) (h0 : 0 ≤ n) (h1 : n ≤ 100000000) : ∃ K, ∀ k, K ≤ k → laws_heldInt64S.f k (up n m) n = some (n + m) := by
  refine ⟨m + 2, fun k hk => ?_⟩
  unfold laws_heldInt64S.f
  have := held_loop m n (by omega) h0 (by omega) m k 0 (by omega) (by omega)
  simpa using this
end Go.Proofs.Ytepigphelclpcaa.H
namespace Go.Proofs.Ytepigphelclpcaa.Num
open Go.RowKit
def cg (p a b : Int) : Prop := p ∣ a - b
theorem cg.symm {p a b : Int} : cg p a b → cg p b a := fun ⟨k, h⟩ => ⟨-k, by rw [Int.mul_neg, ← h]; omega⟩
theorem cg.trans {p a b c : Int} : cg p a b → cg p b c → cg p a c := fun ⟨k, h⟩ ⟨m, h'⟩ => ⟨k + m, by rw [Int.mul_add, ← h, ← h']; omega⟩
end Go.Proofs.Ytepigphelclpcaa.Num
namespace Go.Proofs.Ytepigphelclpcaa.H
open Go.RowKit Go.Proofs.YtepigphelclpcaaW.PrintWords Go.Proofs.YtepigphelclpcaaW.PrintLast Go.Proofs.YtepigphelclpcaaW.PrintMore Go.Proofs.Ytepigphelclpcaa.Num
theorem spec_prime (p : Int) : Ev (fun k => spec_l01Prime.f k p) (primeB p) := by
  refine ⟨200, fun k hk => ?_⟩
  unfold spec_l01Prime.f spec_l01In.f
  by_cases h1 : p ≥ 2
  · by_cases h2 : p ≤ 10007
    · obtain ⟨b, hb, hiff⟩ := prime_loop spec_l01Prime.l0 p h1 h2 (fun k i => rfl) 102 k 2 (by omega) (by omega) (by omega) (by omega)
      simp only [if_pos h1, Option.bind_some, decide_eq_true h2, if_true, hb, primeB_loop h1 h2 hiff]
    · simp [if_pos h1, decide_eq_false h2, primeB_hi h2]
  · simp [if_neg h1, primeB_lo h1]
theorem impl_prime (p : Int) : Ev (fun k => impl_IsPrime.f k p) (primeB p) := by
  refine ⟨200, fun k hk => ?_⟩
  unfold impl_IsPrime.f impl_within.f
  by_cases h1 : 2 ≤ p
  · by_cases h2 : p ≤ 10007
    · obtain ⟨b, hb, hiff⟩ := prime_loop impl_IsPrime.l0 p h1 h2 (fun k i => rfl) 102 k 2 (by omega) (by omega) (by omega) (by omega)
      simp only [if_pos h1, Option.bind_some, decide_eq_true h2, if_true, hb, primeB_loop h1 h2 hiff]
    · simp [if_pos h1, decide_eq_false h2, primeB_hi h2]
  · simp [if_neg h1, primeB_lo h1]
theorem impl_mod {p x : Int} (hp : 0 < p) (hp2 : p ≤ 1000000000) : impl_field_mod.f p x = some (x % p) := by
  unfold impl_field_mod.f; rw [if_neg (by omega), md hp hp2]
theorem impl_mul {p x y : Int} (hp : 0 < p) (hp2 : p ≤ 1000000000) (h1 : -9223372036854775808 ≤ x * y) (h2 : x * y ≤ 9223372036854775807) : impl_field_mul.f p x y = some (x * y % p) := by
  unfold impl_field_mul.f; rw [impl_mod hp hp2, w64 h1 h2]; rfl
theorem hasB_iff {p x : Int} : hasB p x = true ↔ 0 ≤ x ∧ x < p := by unfold hasB; simp
def InR (p : Int) (l : List Int) : Prop := ∀ x ∈ l, 0 ≤ x ∧ x < p
theorem InR.get {p : Int} {l : List Int} (h : InR p l) (hp : 0 < p) (i : Nat) : 0 ≤ l.getD i 0 ∧ l.getD i 0 < p := by
  rcases Nat.lt_or_ge i l.length with hi | hi
  · rw [List.getD_eq_getElem?_getD, List.getElem?_eq_getElem hi]; exact h _ (List.getElem_mem hi)
  · rw [List.getD_eq_getElem?_getD, List.getElem?_eq_none hi]; exact ⟨Int.le_refl _, hp⟩
theorem InR.take {p : Int} {l : List Int} (h : InR p l) (n : Nat) : InR p (l.take n) := fun x hx => h x (List.mem_of_mem_take hx)
theorem InR.append {p : Int} {l l' : List Int} (h : InR p l) (h' : InR p l') : InR p (l ++ l') := fun x hx => by
  rcases List.mem_append.1 hx with hx | hx
  · exact h x hx
  · exact h' x hx
theorem InR.drop {p : Int} {l : List Int} (h : InR p l) (n : Nat) : InR p (l.drop n) := fun x hx => h x (List.mem_of_mem_drop hx)
theorem InR.one {p x : Int} (h : 0 ≤ x ∧ x < p) : InR p [x] := fun y hy => by rw [List.mem_singleton.1 hy]; exact h
theorem mul_bd2 {p x y : Int} (hp : p ≤ 10007) (hx : 0 ≤ x ∧ x < p) (hy : 0 ≤ y ∧ y ≤ 100000) : 0 ≤ x * y ∧ x * y ≤ 1000700000 := by
  have := mul_bd (a := 10007) (b := 100000) hx.1 (by omega) hy.1 hy.2; omega
theorem in_any (x a b : Int) : spec_l01In.f x a b = some (decide (a ≤ x) && decide (x ≤ b)) := by
  unfold spec_l01In.f; by_cases h : x ≥ a
  · rw [if_pos h, decide_eq_true h, Bool.true_and]
  · rw [if_neg h, decide_eq_false h, Bool.false_and]
theorem in_has {p : Int} (hp : IsP p) (x : Int) : spec_l01In.f x 0 (wrap64 (p - 1)) = some (hasB p x) := by
  rw [in_any, w64 (by have := hp.1; omega) (by have := hp.2.1; omega)]; unfold hasB; congr 2; exact decide_eq_decide.2 (by omega)
theorem in_unit {p : Int} (x : Int) : spec_l01In.f x 1 (wrap64 (p - 1)) = some (unitB p x) := in_any x _ _
theorem _root_.Go.Proofs.Ytepigphelclpcaa.Num.IsP.p2 {p : Int} (h : IsP p) : 2 ≤ p := h.1
theorem _root_.Go.Proofs.Ytepigphelclpcaa.Num.IsP.pm {p : Int} (h : IsP p) : p ≤ 10007 := h.2.1
theorem _root_.Go.Proofs.Ytepigphelclpcaa.Num.IsP.p0 {p : Int} (h : IsP p) : 0 < p := by have := h.1; omega
theorem hor_bd {p o x c : Int} (hp2 : p ≤ 10007) (ho : 0 ≤ o ∧ o < p) (hx : 0 ≤ x ∧ x < p) (hc : 0 ≤ c ∧ c < p) : 0 ≤ o * x ∧ o * x ≤ 1000700000 ∧ 0 ≤ o * x + c ∧ o * x + c ≤ 2000000000 := by
  have := mul_bd2 hp2 ho (y := x) (by omega); omega
/-- the numbers of a list, 0 behind its end -/
def co (l : List Int) (i : Nat) : Int := l.getD i 0
theorem InR.co {p : Int} {l : List Int} (h : InR p l) (hp : 0 < p) (i : Nat) : 0 ≤ co l i ∧ co l i < p := h.get hp i
noncomputable def arNum (p : Int) (l : List Int) (a b : Int) : Bool := primeB p && (withinB l.length a b && l.all (hasB p))
theorem impl_numbers (p : Int) (l : List Int) (a b : Int) : Ev (fun k => impl_areNumbers.f k p l a b) (arNum p l a b) := by
  simp only [impl_areNumbers.f]
  exact Ev.bind (impl_prime p) (Ev.now _)
theorem eqJ_same (q : Int) (A B : List Int) (hA : A.length ≤ 2000000) (hB : B.length ≤ 2000000) : Ev (fun k => laws_eqJacobi.f k q A B q A B) true := by
  simp only [laws_eqJacobi.f, eq_self, if_true]
  refine Ev.bind (eqI_same A hA) ?_
  simp only [eq_self, if_true]
  refine Ev.bind (eqI_same B hB) ?_
  simp only [eq_self, if_true]; exact Ev.now _
theorem markJ_up (q : Int) (A B : List Int) (hA : A.length ≤ 1000000) (hB : B.length ≤ 1000000) (n : Int) (h0 : 0 ≤ n) (h1 : n ≤ 10000000) : Ev (fun k => laws_markJacobi.f k q A B n) (n + A.length + B.length, up n A.length, up (n + A.length) B.length) := by
  simp only [laws_markJacobi.f]
  refine Ev.bind (mark_up A (by omega) n h0 (by omega)) ?_
  exact Ev.bind (mark_up B (by omega) (n + A.length) (by omega) (by omega)) (Ev.now _)
theorem heldJ_up (q : Int) (a b : Nat) (ha : a ≤ 1000000) (hb : b ≤ 1000000) (n : Int) (h0 : 0 ≤ n) (h1 : n ≤ 10000000) : Ev (fun k => laws_heldJacobi.f k q (up n a) (up (n + a) b) n) (n + a + b) := by
  simp only [laws_heldJacobi.f]
  refine Ev.bind (held_up a (by omega) n h0 (by omega)) ?_
  simp (disch := omega) only [if_neg]
  refine Ev.bind (held_up b (by omega) (n + a) (by omega) (by omega)) ?_
  simp (disch := omega) only [if_neg]; exact Ev.now _
theorem spec_is {p : Int} {A B : List Int} (hp : IsP p) (h1 : 1 ≤ A.length) (h2 : A.length ≤ 12) (hB : B.length = A.length) (rA : InR p A) : Ev (fun k => spec_l03Is.f k p A B) (B.all (unitB p)) := by
  have loop : ∀ d i, i + d = A.length → Ev (fun k => spec_l03Is.l0 k (i : Int) p A B) ((B.drop i).all (unitB p)) := by
    intro d
    induction d with
    | zero => intro i h; refine Ev.succ ?_; simp (disch := omega) only [spec_l03Is.l0, if_neg, List.drop_of_length_le]; exact Ev.now _
    | succ d ih =>
      intro i h
      have hi := ih (i + 1) (by omega)
      have ha : hasB p (A.getD i 0) = true := hasB_iff.2 (rA.get hp.p0 i)
      have eA : rd A (i : Int) = A.getD i 0 := rd_n A i
      have eB : rd B (i : Int) = B[i]'(by omega) := rd_lt B i (by omega)
      refine Ev.succ ?_
      rw [List.drop_eq_getElem_cons (show i < B.length by omega), List.all_cons]
      simp (disch := omega) only [spec_l03Is.l0, if_pos, eA, eB, in_has hp, in_unit, Option.bind_some, ha, eq_self, if_true, wp1]
      cases hb : unitB p (B[i]'(by omega)) with
      | true => simp only [if_true, eq_self, Bool.true_and]; exact hi
      | false => simp only [Bool.false_eq_true, if_false, Bool.false_and]; exact Ev.now _
  have h := loop A.length 0 (by omega)
  simp only [spec_l03Is.f]
  have hpr := spec_prime p
  rw [primeB_iff.2 hp] at hpr
  refine Ev.bind hpr ?_
  simp (disch := omega) only [eq_self, if_true, if_neg, hB, bne_self_eq_false]
  refine Ev.succ ?_
  simp only [spec_l03Is.j0, Bool.false_eq_true, if_false]
  exact h
theorem impl_index (l : List Int) (x : Int) (hl : l.length ≤ 1000000000) : ∀ d i, i + d = l.length → ∃ r : Int, decide (r ≥ 0) = (l.drop i).any (fun y => decide (x = y)) ∧ Ev (fun k => slices_Index_int64_int64.l0 k l x (l.length : Int) (i : Int)) r := by
  intro d
  induction d with
  | zero => intro i h; exact ⟨-1, by rw [List.drop_of_length_le (by omega)]; rfl, by refine Ev.succ ?_; simp (disch := omega) only [slices_Index_int64_int64.l0, if_neg]; exact Ev.now _⟩
  | succ d ih =>
    intro i h
    have e : rd l (i : Int) = l[i]'(by omega) := rd_lt l i (by omega)
    by_cases hx : x = l[i]'(by omega)
    · refine ⟨i, ?_, ?_⟩
      · rw [List.drop_eq_getElem_cons (show i < l.length by omega), List.any_cons, decide_eq_true (show (i : Int) ≥ 0 by omega), decide_eq_true hx]; rfl
      · refine Ev.succ ?_
        simp (disch := omega) only [slices_Index_int64_int64.l0, if_pos, e, if_pos hx]; exact Ev.now _
    · obtain ⟨r, h1, h2⟩ := ih (i + 1) (by omega)
      refine ⟨r, ?_, ?_⟩
      · rw [List.drop_eq_getElem_cons (show i < l.length by omega), List.any_cons, decide_eq_false hx, Bool.false_or]; exact h1
      · refine Ev.succ ?_
        simp (disch := omega) only [slices_Index_int64_int64.l0, if_pos, e, if_neg hx, wp1]; exact h2
theorem impl_contains (l : List Int) (x : Int) (hl : l.length ≤ 1000000000) : Ev (fun k => slices_Contains_int64_int64.f k l x) (l.any (fun y => decide (x = y))) := by
  obtain ⟨r, h1, h2⟩ := impl_index l x hl l.length 0 (by omega)
  rw [List.drop_zero] at h1
  simp only [slices_Contains_int64_int64.f, slices_Index_int64_int64.f]
  refine Ev.bind h2 ?_
  rw [h1]; exact Ev.now _
theorem unit_any {p : Int} (hp : IsP p) : ∀ {l : List Int}, InR p l → l.all (unitB p) = !(l.any (fun y => decide (0 = y)))
  | [], _ => rfl
  | x :: l, h => by
    have hx := h x (by simp)
    have ih := unit_any hp (l := l) fun y hy => h y (by simp [hy])
    have hw : wrap64 (p - 1) = p - 1 := w64 (by have := hp.p2; omega) (by have := hp.pm; omega)
    rw [List.all_cons, List.any_cons, ih]
    by_cases h0 : 0 = x
    · rw [decide_eq_true h0, show unitB p x = false by unfold unitB; rw [decide_eq_false (by omega)]; rfl]; rfl
    · rw [decide_eq_false h0, show unitB p x = true by unfold unitB; rw [hw, decide_eq_true (by omega), decide_eq_true (by omega)]; rfl]; simp
def jA (p : Int) (s : List Int) : Nat → List Int
  | 0 => [co s 1]
  | n + 1 => jA p s n ++ [(co s (2 * (n + 1)) + co s (2 * (n + 1) + 1)) % p]
def jB (p : Int) (s : List Int) : Nat → List Int
  | 0 => [co s 0]
  | n + 1 => jB p s n ++ [co s (2 * (n + 1) - 1) * co s (2 * (n + 1)) % p]
theorem jA_len (p : Int) (s : List Int) : ∀ n, (jA p s n).length = n + 1
  | 0 => rfl
  | n + 1 => by simp [jA, jA_len p s n]
theorem jB_len (p : Int) (s : List Int) : ∀ n, (jB p s n).length = n + 1
  | 0 => rfl
  | n + 1 => by simp [jB, jB_len p s n]
theorem jA_inR {p : Int} (hp : 0 < p) {s : List Int} (r : InR p s) : ∀ n, InR p (jA p s n)
  | 0 => InR.one (r.co hp 1)
  | n + 1 => (jA_inR hp r n).append (InR.one (emod_bd hp))
theorem jB_inR {p : Int} (hp : 0 < p) {s : List Int} (r : InR p s) : ∀ n, InR p (jB p s n)
  | 0 => InR.one (r.co hp 0)
  | n + 1 => (jB_inR hp r n).append (InR.one (emod_bd hp))
def jR (p : Int) (s : List Int) (m : Nat) : Int × List Int × List Int × Int := if (jB p s m).any (fun y => decide (0 = y)) = true then (0, [], [], 5) else (p, jA p s m, jB p s m, 0)
theorem spec_steps {p : Int} {s : List Int} {m : Nat} (hp : IsP p) (r : InR p s) (hs : s.length = 2 * (m + 1)) (hm : m + 1 ≤ 12) : ∀ d n, n + d = m → Ev (fun k => spec_JacobiOfSteps.l0 k p s ((m + 1 : Nat) : Int) ((n + 1 : Nat) : Int) p (jA p s n) (jB p s n)) (jR p s m) := by
  intro d
  induction d with
  | zero =>
    intro n h
    obtain rfl : n = m := by omega
    refine Ev.succ ?_
    simp (disch := omega) only [spec_JacobiOfSteps.l0, if_neg]
    refine Ev.bind (spec_is hp (by rw [jA_len]; omega) (by rw [jA_len]; omega) (by rw [jA_len, jB_len]) (jA_inR hp.p0 r n)) ?_
    rw [unit_any hp (jB_inR hp.p0 r n)]
    unfold jR
    cases (jB p s n).any (fun y => decide (0 = y)) with
    | true => simp only [Bool.not_true, Bool.false_eq_true, if_false, if_true]; exact Ev.now _
    | false => simp only [Bool.not_false, Bool.false_eq_true, if_false, if_true]; exact Ev.now _
  | succ d ih =>
    intro n h
    have hi := ih (n + 1) (by omega)
    have la := jA_len p s n
    have lb := jB_len p s n
    have hp0 := hp.p0
    have hpm := hp.pm
    have q0 : ((n + 1 : Nat) : Int) < ((m + 1 : Nat) : Int) := by omega
    have e1 : wrap64 (2 * ((n + 1 : Nat) : Int)) = ((2 * (n + 1) : Nat) : Int) := by rw [w64 (by omega) (by omega)]; omega
    have e2 : wrap64 (((2 * (n + 1) : Nat) : Int) + 1) = ((2 * (n + 1) + 1 : Nat) : Int) := by rw [w64 (by omega) (by omega)]; omega
    have e3 : wrap64 (((2 * (n + 1) : Nat) : Int) - 1) = ((2 * (n + 1) - 1 : Nat) : Int) := by rw [w64 (by omega) (by omega)]; omega
    have q1 : (0 : Int) ≤ ((2 * (n + 1) : Nat) : Int) := by omega
    have q2 : ((2 * (n + 1) : Nat) : Int) < (s.length : Int) := by omega
    have q3 : (0 : Int) ≤ ((2 * (n + 1) + 1 : Nat) : Int) := by omega
    have q4 : ((2 * (n + 1) + 1 : Nat) : Int) < (s.length : Int) := by omega
    have q5 : (0 : Int) ≤ ((2 * (n + 1) - 1 : Nat) : Int) := by omega
    have q6 : ((2 * (n + 1) - 1 : Nat) : Int) < (s.length : Int) := by omega
    have q7 : ¬ p = 0 := by omega
    have q8 : (jA p s n).length < 17592186044416 := by omega
    have q9 : (jB p s n).length < 17592186044416 := by omega
    have e4 : wrap64 (((n + 1 : Nat) : Int) + 1) = ((n + 1 + 1 : Nat) : Int) := wn (by omega)
    have b1 := r.co hp0 (2 * (n + 1))
    have b2 := r.co hp0 (2 * (n + 1) + 1)
    have b3 := r.co hp0 (2 * (n + 1) - 1)
    have b4 := hor_bd hpm b3 b1 b1
    have r1 : rd s ((2 * (n + 1) : Nat) : Int) = co s (2 * (n + 1)) := rd_n _ _
    have r2 : rd s ((2 * (n + 1) + 1 : Nat) : Int) = co s (2 * (n + 1) + 1) := rd_n _ _
    have r3 : rd s ((2 * (n + 1) - 1 : Nat) : Int) = co s (2 * (n + 1) - 1) := rd_n _ _
    have w1 : wrap64 (co s (2 * (n + 1)) + co s (2 * (n + 1) + 1)) = co s (2 * (n + 1)) + co s (2 * (n + 1) + 1) := w64 (by omega) (by omega)
    have w2 : wrap64 (co s (2 * (n + 1) - 1) * co s (2 * (n + 1))) = co s (2 * (n + 1) - 1) * co s (2 * (n + 1)) := w64 (by omega) (by omega)
    have t1 : Int.tmod (co s (2 * (n + 1)) + co s (2 * (n + 1) + 1)) p = (co s (2 * (n + 1)) + co s (2 * (n + 1) + 1)) % p := tmod_nn (by omega)
    have t2 : Int.tmod (co s (2 * (n + 1) - 1) * co s (2 * (n + 1))) p = (co s (2 * (n + 1) - 1) * co s (2 * (n + 1))) % p := tmod_nn (by omega)
    refine Ev.succ ?_
    simp only [spec_JacobiOfSteps.l0, if_pos q0, e1, e2, e3, if_pos q1, if_pos q2, if_pos q3, if_pos q4, if_pos q5, if_pos q6, if_neg q7, if_pos q8, if_pos q9, e4, r1, r2, r3, w1, w2, t1, t2]
    exact hi
theorem impl_steps {p : Int} {s : List Int} {m : Nat} (hp : IsP p) (r : InR p s) (hs : s.length = 2 * (m + 1)) (hm : m + 1 ≤ 12) : ∀ d n, n + d = m → Ev (fun k => impl_JacobiOfSteps.l0 k s p ((2 * (n + 1) : Nat) : Int) p (jA p s n) (jB p s n)) (jR p s m) := by
  intro d
  induction d with
  | zero =>
    intro n h
    obtain rfl : n = m := by omega
    have lb := jB_len p s n
    refine Ev.succ ?_
    simp (disch := omega) only [impl_JacobiOfSteps.l0, if_neg]
    refine Ev.bind (impl_contains (jB p s n) 0 (by omega)) ?_
    unfold jR
    cases (jB p s n).any (fun y => decide (0 = y)) with
    | true => simp only [Bool.false_eq_true, if_false, if_true]; exact Ev.now _
    | false => simp only [Bool.false_eq_true, if_false, if_true]; exact Ev.now _
  | succ d ih =>
    intro n h
    have hi := ih (n + 1) (by omega)
    have la := jA_len p s n
    have lb := jB_len p s n
    have hp0 := hp.p0
    have hpm := hp.pm
    have e2 : wrap64 (((2 * (n + 1) : Nat) : Int) + 1) = ((2 * (n + 1) + 1 : Nat) : Int) := by rw [w64 (by omega) (by omega)]; omega
    have e3 : wrap64 (((2 * (n + 1) : Nat) : Int) - 1) = ((2 * (n + 1) - 1 : Nat) : Int) := by rw [w64 (by omega) (by omega)]; omega
    have e4 : wrap64 (((2 * (n + 1) : Nat) : Int) + 2) = ((2 * (n + 1 + 1) : Nat) : Int) := by rw [w64 (by omega) (by omega)]; omega
    have q1 : (0 : Int) ≤ ((2 * (n + 1) : Nat) : Int) := by omega
    have q2 : ((2 * (n + 1) : Nat) : Int) < (s.length : Int) := by omega
    have q3 : (0 : Int) ≤ ((2 * (n + 1) + 1 : Nat) : Int) := by omega
    have q4 : ((2 * (n + 1) + 1 : Nat) : Int) < (s.length : Int) := by omega
    have q5 : (0 : Int) ≤ ((2 * (n + 1) - 1 : Nat) : Int) := by omega
    have q6 : ((2 * (n + 1) - 1 : Nat) : Int) < (s.length : Int) := by omega
    have q8 : (jA p s n).length < 17592186044416 := by omega
    have q9 : (jB p s n).length < 17592186044416 := by omega
    have b1 := r.co hp0 (2 * (n + 1))
    have b2 := r.co hp0 (2 * (n + 1) + 1)
    have b3 := r.co hp0 (2 * (n + 1) - 1)
    have b4 := hor_bd hpm b3 b1 b1
    have r1 : rd s ((2 * (n + 1) : Nat) : Int) = co s (2 * (n + 1)) := rd_n _ _
    have r2 : rd s ((2 * (n + 1) + 1 : Nat) : Int) = co s (2 * (n + 1) + 1) := rd_n _ _
    have r3 : rd s ((2 * (n + 1) - 1 : Nat) : Int) = co s (2 * (n + 1) - 1) := rd_n _ _
    have w1 : wrap64 (co s (2 * (n + 1)) + co s (2 * (n + 1) + 1)) = co s (2 * (n + 1)) + co s (2 * (n + 1) + 1) := w64 (by omega) (by omega)
    have m1 : impl_field_mod.f p (co s (2 * (n + 1)) + co s (2 * (n + 1) + 1)) = some ((co s (2 * (n + 1)) + co s (2 * (n + 1) + 1)) % p) := impl_mod hp0 (by omega)
    have m2 : impl_field_mul.f p (co s (2 * (n + 1) - 1)) (co s (2 * (n + 1))) = some (co s (2 * (n + 1) - 1) * co s (2 * (n + 1)) % p) := impl_mul hp0 (by omega) (by omega) (by omega)
    refine Ev.succ ?_
    simp only [impl_JacobiOfSteps.l0, e2, e3, e4, if_pos q1, if_pos q2, if_pos q3, if_pos q4, if_pos q5, if_pos q6, if_pos q8, if_pos q9, r1, r2, r3, w1, m1, m2, Option.bind_some]
    exact hi
theorem spec_points {p : Int} (hp : IsP p) (l : List Int) (hl : l.length ≤ 1000000000) : Ev (fun k => spec_l01Points.f k p l false) (l.all (hasB p)) := by
  have loop : ∀ d i, i + d = l.length → Ev (fun k => spec_l01Points.l0 k p l false (i : Int)) ((l.drop i).all (hasB p)) := by
    intro d
    induction d with
    | zero => intro i h; refine Ev.succ ?_; simp (disch := omega) only [spec_l01Points.l0, if_neg, List.drop_of_length_le]; exact Ev.now _
    | succ d ih =>
      intro i h
      have hi := ih (i + 1) (by omega)
      refine Ev.succ ?_
      rw [List.drop_eq_getElem_cons (show i < l.length by omega), List.all_cons]
      simp (disch := omega) only [spec_l01Points.l0, if_pos, in_has hp, Option.bind_some, rd_lt l i (show i < l.length by omega)]
      cases hb : hasB p (l[i]'(by omega)) with
      | true =>
        simp only [if_true, Bool.true_and]
        refine Ev.succ ?_
        simp only [spec_l01Points.l1, ite_self]
        refine Ev.succ ?_
        simp (disch := omega) only [spec_l01Points.j2, Bool.false_eq_true, if_false, wp1]
        exact hi
      | false => simp only [Bool.false_eq_true, if_false, Bool.false_and]; exact Ev.now _
  have h := loop l.length 0 (by omega)
  simp only [spec_l01Points.f]
  exact h
end Go.Proofs.Ytepigphelclpcaa.H
