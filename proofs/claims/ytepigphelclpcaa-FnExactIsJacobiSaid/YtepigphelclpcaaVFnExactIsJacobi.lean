/- Plain laws that the claim of FnExactIsJacobi reaches: numbers modulo a prime, lists, and what the printed functions answer. -/
import Derived.RowKit
import Derived.Test.YtepigphelclpcaaWWords
import Derived.Test.YtepigphelclpcaaWMore
import Derived.Test.YtepigphelclpcaaMb2
import Derived.Test.YtepigphelclpcaaMabcd1
import Derived.Test.YtepigphelclpcaaMb1
import Derived.Test.YtepigphelclpcaaMabc1
import Derived.Test.YtepigphelclpcaaMbc1
import Derived.Test.YtepigphelclpcaaMb3
import Derived.Test.YtepigphelclpcaaMbc2
set_option linter.unusedVariables false
set_option linter.unusedSimpArgs false
namespace Go.Proofs.Ytepigphelclpcaa.Num
open Go.RowKit
theorem w64 {x : Int} (h1 : -9223372036854775808 ≤ x) (h2 : x ≤ 9223372036854775807) : wrap64 x = x := by
  unfold wrap64; omega
theorem tmod_nn {a b : Int} (h : 0 ≤ a) : Int.tmod a b = a % b := Int.tmod_eq_emod_of_nonneg h
theorem mul_bd {x y a b : Int} (hx0 : 0 ≤ x) (hx : x ≤ a) (hy0 : 0 ≤ y) (hy : y ≤ b) : 0 ≤ x * y ∧ x * y ≤ a * b :=
  ⟨Int.mul_nonneg hx0 hy0, Int.mul_le_mul hx hy hy0 (by omega)⟩
/-- what trial division tells -/
def Pr (p : Nat) : Prop := 2 ≤ p ∧ ∀ d, d ∣ p → d = 1 ∨ d = p
theorem Pr.of_trial {p : Nat} (h2 : 2 ≤ p) (h : ∀ d, 2 ≤ d → d * d ≤ p → p % d ≠ 0) : Pr p := by
  refine ⟨h2, fun d hd => ?_⟩
  obtain ⟨e, he⟩ := hd
  have hd0 : 0 < d := by rcases Nat.eq_zero_or_pos d with h0 | h0; (subst h0; simp at he; omega); exact h0
  have he0 : 0 < e := by rcases Nat.eq_zero_or_pos e with h0 | h0; (subst h0; simp at he; omega); exact h0
  rcases Nat.lt_or_ge d 2 with h1 | h1
  · left; omega
  rcases Nat.lt_or_ge e 2 with h3 | h3
  · right
    have : e = 1 := by omega
    subst this; simpa using he.symm
  · exfalso
    rcases Nat.le_total d e with hle | hle
    · refine h d h1 ?_ ?_
      · rw [he]; exact Nat.mul_le_mul_left d hle
      · rw [he]; exact Nat.mul_mod_right d e
    · refine h e h3 ?_ ?_
      · rw [he]; exact Nat.mul_le_mul_right e hle
      · rw [he]; exact Nat.mul_mod_left d e
/-- is it a prime of the program's? -/
def IsP (p : Int) : Prop := 2 ≤ p ∧ p ≤ 10007 ∧ Pr p.toNat
open Classical in
/-- the same as a bool -/
noncomputable def primeB (p : Int) : Bool := decide (IsP p)
theorem primeB_iff {p : Int} : primeB p = true ↔ IsP p := by
  unfold primeB; exact @decide_eq_true_iff _ (Classical.propDecidable _)
theorem prime_loop (l : Nat → Int → Int → Option Bool) (p : Int) (hp : 2 ≤ p) (hp2 : p ≤ 10007)
    (hl : ∀ k i, l (k + 1) p i = if wrap64 (i * i) ≤ p then (if i = 0 then none else (if Int.tmod p i = 0 then some false else l k p (wrap64 (i + 1)))) else some true)
    (d : Nat) : ∀ (k : Nat) (i : Int), 2 ≤ i → i ≤ 101 → 101 - i < d → d < k →
      ∃ b, l k p i = some b ∧ (b = true ↔ ∀ j : Int, i ≤ j → j * j ≤ p → p % j ≠ 0) := by
  induction d with
  | zero => intro k i h1 h2 h3; omega
  | succ d ih =>
    intro k i h1 h2 h3 hk
    obtain ⟨k, rfl⟩ : ∃ m, k = m + 1 := ⟨k - 1, by omega⟩
    rw [hl]
    have hb := mul_bd (a := 101) (b := 101) (x := i) (y := i) (by omega) h2 (by omega) h2
    rw [w64 (by omega) (by omega), w64 (x := i + 1) (by omega) (by omega)]
    by_cases hle : i * i ≤ p
    · have hi : i ≤ 100 := by
        rcases Int.lt_or_le 100 i with h | h
        · have := Int.mul_le_mul (a := 101) (b := 101) (c := i) (d := i) (by omega) (by omega) (by omega) (by omega); omega
        · exact h
      rw [if_pos hle, if_neg (by omega), tmod_nn (by omega)]
      by_cases hd : p % i = 0
      · rw [if_pos hd]
        exact ⟨false, rfl, by simp; exact ⟨i, Int.le_refl _, hle, hd⟩⟩
      · rw [if_neg hd]
        obtain ⟨b, hb1, hb2⟩ := ih k (i + 1) (by omega) (by omega) (by omega) (by omega)
        refine ⟨b, hb1, hb2.trans ⟨fun h j hj hjj => ?_, fun h j hj hjj => h j (by omega) hjj⟩⟩
        by_cases e : j = i
        · subst e; exact hd
        · exact h j (by omega) hjj
    · rw [if_neg hle]
      refine ⟨true, rfl, by simp; intro j hj hjj; exfalso; apply hle; exact Int.le_trans (Int.mul_le_mul hj hj (by omega) (by omega)) hjj⟩
theorem trial_iff {p : Int} (hp : 2 ≤ p) : (∀ j : Int, 2 ≤ j → j * j ≤ p → p % j ≠ 0) ↔ Pr p.toNat := by
  constructor
  · intro h
    refine Pr.of_trial (by omega) fun d hd hdd h0 => ?_
    refine h d (by omega) ?_ ?_
    · have : ((d * d : Nat) : Int) ≤ p := by omega
      simpa using this
    · have : ((p.toNat % d : Nat) : Int) = 0 := by rw [h0]; rfl
      rw [Int.natCast_emod, Int.toNat_of_nonneg (by omega)] at this
      exact this
  · intro h j hj hjj h0
    obtain ⟨d, rfl⟩ : ∃ d : Nat, j = d := ⟨j.toNat, by omega⟩
    obtain ⟨n, rfl⟩ : ∃ n : Nat, p = n := ⟨p.toNat, by omega⟩
    simp only [Int.toNat_natCast] at h
    have hdv : d ∣ n := by
      apply Nat.dvd_of_mod_eq_zero
      have : ((n % d : Nat) : Int) = 0 := by rw [Int.natCast_emod]; exact h0
      omega
    have hn : d * d ≤ n := by
      have : ((d * d : Nat) : Int) ≤ n := by simpa using hjj
      omega
    rcases h.2 d hdv with e | e
    · omega
    · subst e
      have : d * 2 ≤ d * d := Nat.mul_le_mul_left d (by omega)
      omega
theorem primeB_loop {p : Int} {b : Bool} (h1 : 2 ≤ p) (h2 : p ≤ 10007) (h : b = true ↔ ∀ j : Int, 2 ≤ j → j * j ≤ p → p % j ≠ 0) : b = primeB p := by
  rw [Bool.eq_iff_iff, primeB_iff, h, trial_iff h1]
  exact ⟨fun h => ⟨h1, h2, h⟩, fun h => h.2.2⟩
theorem primeB_lo {p : Int} (h : ¬ 2 ≤ p) : primeB p = false := by
  rw [Bool.eq_false_iff]; intro e; exact h (primeB_iff.1 e).1
theorem primeB_hi {p : Int} (h : ¬ p ≤ 10007) : primeB p = false := by
  rw [Bool.eq_false_iff]; intro e; exact h (primeB_iff.1 e).2.1
end Go.Proofs.Ytepigphelclpcaa.Num
namespace Go.Proofs.Ytepigphelclpcaa.H
open Go.RowKit Go.Proofs.YtepigphelclpcaaW.PrintWords Go.Proofs.YtepigphelclpcaaW.PrintLast Go.Proofs.YtepigphelclpcaaW.PrintMore Go.Proofs.Ytepigphelclpcaa.Num
theorem Ev.succ {α : Type} {g : Nat → Option α} {r : α} (h : Ev (fun k => g (k + 1)) r) : Ev g r := by
  obtain ⟨K, h⟩ := h
  refine ⟨K + 1, fun k hk => ?_⟩
  obtain ⟨m, rfl⟩ : ∃ m, k = m + 1 := ⟨k - 1, by omega⟩
  exact h m (by omega)
theorem wp1 {i : Nat} (h : i ≤ 1000000000000) : wrap64 ((i : Int) + 1) = ((i + 1 : Nat) : Int) := by rw [w64 (by omega) (by omega)]; omega
theorem rd_lt (l : List Int) (i : Nat) (h : i < l.length) : rd l (i : Int) = l[i] := by simp [rd, h]
theorem wn {i : Nat} (h : i ≤ 1000000000000) : wrap64 ((i : Int) + 1) = ((i + 1 : Nat) : Int) := by rw [w64 (by omega) (by omega)]; omega
theorem toI_loop (l : List Int) (hl : l.length ≤ 1000000000) (d : Nat) : ∀ (k i : Nat) (acc : List Int), i + d = l.length → acc.length = l.length → acc.take i = l.take i → d < k → laws_toInt64S.l0 k l acc (i : Int) = some l := by
  induction d with
  | zero =>
    intro k i acc h1 h2 h3 hk
    obtain ⟨k, rfl⟩ : ∃ m, k = m + 1 := ⟨k - 1, by omega⟩
    simp only [laws_toInt64S.l0]
    rw [if_neg (by omega)]
    have : acc = l := by
      have e1 : acc.take i = acc := List.take_of_length_le (by omega)
      have e2 : l.take i = l := List.take_of_length_le (by omega)
      rw [e1, e2] at h3; exact h3
    rw [this]
  | succ d ih =>
    intro k i acc h1 h2 h3 hk
    obtain ⟨k, rfl⟩ : ∃ m, k = m + 1 := ⟨k - 1, by omega⟩
    simp only [laws_toInt64S.l0]
    rw [if_pos (by omega), if_pos (by omega), if_pos (by omega), wn (by omega), rd_lt l i (by omega), Int.toNat_natCast]
    refine ih k (i + 1) _ (by omega) (by simpa using h2) ?_ (by omega)
    rw [List.take_succ_eq_append_getElem (by simp; omega), List.take_succ_eq_append_getElem (by omega), List.getElem_set_self, List.take_set_of_le (Nat.le_refl i), h3]
theorem toI_same (l : List Int) (hl : l.length ≤ 1048576) : ∃ K, ∀ k, K ≤ k → laws_toInt64S.f k l = some l := by
  refine ⟨l.length + 2, fun k hk => ?_⟩
  unfold laws_toInt64S.f
  rw [if_pos (by omega), if_pos (by omega)]
  exact toI_loop l (by omega) l.length k 0 _ (by omega) (by simp) (by simp) (by omega)
theorem eqI_loop (l : List Int) (hl : l.length ≤ 1000000000) (d : Nat) : ∀ (k i : Nat), i + d = l.length → d < k → laws_eqInt64S.l0 k l l (i : Int) = some true := by
  induction d with
  | zero =>
    intro k i h1 hk
    obtain ⟨k, rfl⟩ : ∃ m, k = m + 1 := ⟨k - 1, by omega⟩
    simp only [laws_eqInt64S.l0]
    rw [if_neg (by omega)]
  | succ d ih =>
    intro k i h1 hk
    obtain ⟨k, rfl⟩ : ∃ m, k = m + 1 := ⟨k - 1, by omega⟩
    simp only [laws_eqInt64S.l0]
    rw [if_pos (by omega), if_pos (by omega), if_pos (by omega), if_pos trivial, wn (by omega)]
    exact ih k (i + 1) (by omega) (by omega)
theorem eqI_same (l : List Int) (hl : l.length ≤ 2000000) : ∃ K, ∀ k, K ≤ k → laws_eqInt64S.f k l l = some true := by
  refine ⟨l.length + 2, fun k hk => ?_⟩
  unfold laws_eqInt64S.f
  rw [if_pos rfl]
  exact eqI_loop l (by omega) l.length k 0 (by omega) (by omega)
end Go.Proofs.Ytepigphelclpcaa.H
namespace Go.Proofs.Ytepigphelclpcaa.Num
open Go.RowKit
def cg (p a b : Int) : Prop := p ∣ a - b
theorem cg.symm {p a b : Int} : cg p a b → cg p b a := fun ⟨k, h⟩ => ⟨-k, by rw [Int.mul_neg, ← h]; omega⟩
theorem cg.trans {p a b c : Int} : cg p a b → cg p b c → cg p a c := fun ⟨k, h⟩ ⟨m, h'⟩ => ⟨k + m, by rw [Int.mul_add, ← h, ← h']; omega⟩
end Go.Proofs.Ytepigphelclpcaa.Num
namespace Go.Proofs.Ytepigphelclpcaa.H
open Go.RowKit Go.Proofs.YtepigphelclpcaaW.PrintWords Go.Proofs.YtepigphelclpcaaW.PrintLast Go.Proofs.YtepigphelclpcaaW.PrintMore Go.Proofs.Ytepigphelclpcaa.Num
theorem spec_prime (p : Int) : Ev (fun k => spec_l01Prime.f k p) (primeB p) := by
  refine ⟨200, fun k hk => ?_⟩
  unfold spec_l01Prime.f spec_l01In.f
  by_cases h1 : p ≥ 2
  · by_cases h2 : p ≤ 10007
    · obtain ⟨b, hb, hiff⟩ := prime_loop spec_l01Prime.l0 p h1 h2 (fun k i => rfl) 102 k 2 (by omega) (by omega) (by omega) (by omega)
      simp only [if_pos h1, Option.bind_some, decide_eq_true h2, if_true, hb, primeB_loop h1 h2 hiff]
    · simp [if_pos h1, decide_eq_false h2, primeB_hi h2]
  · simp [if_neg h1, primeB_lo h1]
theorem impl_prime (p : Int) : Ev (fun k => impl_IsPrime.f k p) (primeB p) := by
  refine ⟨200, fun k hk => ?_⟩
  unfold impl_IsPrime.f impl_within.f
  by_cases h1 : 2 ≤ p
  · by_cases h2 : p ≤ 10007
    · obtain ⟨b, hb, hiff⟩ := prime_loop impl_IsPrime.l0 p h1 h2 (fun k i => rfl) 102 k 2 (by omega) (by omega) (by omega) (by omega)
      simp only [if_pos h1, Option.bind_some, decide_eq_true h2, if_true, hb, primeB_loop h1 h2 hiff]
    · simp [if_pos h1, decide_eq_false h2, primeB_hi h2]
  · simp [if_neg h1, primeB_lo h1]
def InR (p : Int) (l : List Int) : Prop := ∀ x ∈ l, 0 ≤ x ∧ x < p
theorem InR.take {p : Int} {l : List Int} (h : InR p l) (n : Nat) : InR p (l.take n) := fun x hx => h x (List.mem_of_mem_take hx)
theorem InR.drop {p : Int} {l : List Int} (h : InR p l) (n : Nat) : InR p (l.drop n) := fun x hx => h x (List.mem_of_mem_drop hx)
theorem in_any (x a b : Int) : spec_l01In.f x a b = some (decide (a ≤ x) && decide (x ≤ b)) := by
  unfold spec_l01In.f; by_cases h : x ≥ a
  · rw [if_pos h, decide_eq_true h, Bool.true_and]
  · rw [if_neg h, decide_eq_false h, Bool.false_and]
theorem in_has {p : Int} (hp : IsP p) (x : Int) : spec_l01In.f x 0 (wrap64 (p - 1)) = some (hasB p x) := by
  rw [in_any, w64 (by have := hp.1; omega) (by have := hp.2.1; omega)]; unfold hasB; congr 2; exact decide_eq_decide.2 (by omega)
theorem in_unit {p : Int} (x : Int) : spec_l01In.f x 1 (wrap64 (p - 1)) = some (unitB p x) := in_any x _ _
theorem eqJ_same (q : Int) (A B : List Int) (hA : A.length ≤ 2000000) (hB : B.length ≤ 2000000) : Ev (fun k => laws_eqJacobi.f k q A B q A B) true := by
  simp only [laws_eqJacobi.f, eq_self, if_true]
  refine Ev.bind (eqI_same A hA) ?_
  simp only [eq_self, if_true]
  refine Ev.bind (eqI_same B hB) ?_
  simp only [eq_self, if_true]; exact Ev.now _
noncomputable def jaB (p : Int) (A B : List Int) : Bool := primeB p && (withinB A.length 1 12 && (decide (B.length = A.length) && (A.all (hasB p) && B.all (unitB p))))
theorem spec_is2 {p : Int} {A B : List Int} (hp : IsP p) (h2 : A.length ≤ 12) (hB : B.length = A.length) : Ev (fun k => spec_l03Is.l0 k 0 p A B) (A.all (hasB p) && B.all (unitB p)) := by
  have loop : ∀ d i, i + d = A.length → Ev (fun k => spec_l03Is.l0 k (i : Int) p A B) ((A.drop i).all (hasB p) && (B.drop i).all (unitB p)) := by
    intro d
    induction d with
    | zero => intro i h; refine Ev.succ ?_; simp (disch := omega) only [spec_l03Is.l0, if_neg, List.drop_of_length_le]; exact Ev.now _
    | succ d ih =>
      intro i h
      have hi := ih (i + 1) (by omega)
      have eA : rd A (i : Int) = A[i]'(by omega) := rd_lt A i (by omega)
      have eB : rd B (i : Int) = B[i]'(by omega) := rd_lt B i (by omega)
      refine Ev.succ ?_
      rw [List.drop_eq_getElem_cons (show i < B.length by omega), List.all_cons, List.drop_eq_getElem_cons (show i < A.length by omega), List.all_cons]
      simp (disch := omega) only [spec_l03Is.l0, if_pos, eA, eB, in_has hp, in_unit, Option.bind_some, wp1]
      cases ha : hasB p (A[i]'(by omega)) with
      | false => simp only [Bool.false_eq_true, if_false, Bool.false_and]; exact Ev.now _
      | true =>
        cases hb : unitB p (B[i]'(by omega)) with
        | true => simp (disch := omega) only [if_true, if_pos, eq_self, Bool.true_and]; exact hi
        | false => simp (disch := omega) only [if_true, if_pos, Bool.false_eq_true, if_false, Bool.false_and, Bool.and_false]; exact Ev.now _
  exact loop A.length 0 (by omega)
theorem spec_jacobi (p : Int) (A B : List Int) : Ev (fun k => spec_IsJacobi.f k p A B) (jaB p A B) := by
  have h1 := spec_prime p
  have no : Ev (fun k => spec_l03Is.j0 k true p A B) false := by refine Ev.succ ?_; simp only [spec_l03Is.j0, if_true]; exact Ev.now _
  simp only [spec_IsJacobi.f]
  refine Ev.bind (r := jaB p A B) ?_ (Ev.now _)
  simp only [spec_l03Is.f]
  refine Ev.bind h1 ?_
  unfold jaB withinB
  cases hp : primeB p with
  | false => simp only [Bool.false_eq_true, if_false, Bool.false_and]; exact no
  | true =>
    by_cases c1 : (A.length : Int) < 1
    · simp only [if_true, if_pos c1, decide_eq_false (show ¬ (1 : Int) ≤ A.length by omega), Bool.and_false, Bool.false_and]; exact no
    · by_cases c2 : (A.length : Int) > 12
      · simp only [if_true, if_neg c1, if_pos c2, decide_eq_false (show ¬ (A.length : Int) ≤ 12 by omega), Bool.and_false, Bool.false_and]; exact no
      · simp only [if_true, if_neg c1, if_neg c2, decide_eq_true (show (1 : Int) ≤ A.length by omega), decide_eq_true (show (A.length : Int) ≤ 12 by omega), Bool.true_and]
        by_cases c3 : B.length = A.length
        · simp only [c3, bne_self_eq_false, decide_true, Bool.true_and]
          refine Ev.succ ?_
          simp only [spec_l03Is.j0, Bool.false_eq_true, if_false]
          exact spec_is2 (primeB_iff.1 hp) (by omega) c3
        · have hne : ((B.length : Int) != (A.length : Int)) = true := by
            rw [bne_iff_ne]; omega
          simp only [hne, decide_eq_false c3, Bool.false_and]; exact no
theorem impl_jacobi (p : Int) (A B : List Int) : Ev (fun k => impl_IsJacobi.f k p A B) (jaB p A B) := by
  have h1 := impl_prime p
  simp only [impl_IsJacobi.f]
  refine Ev.bind h1 ?_
  unfold jaB withinB
  cases hp : primeB p with
  | false => simp only [Bool.false_eq_true, if_false, Bool.false_and]; exact Ev.now _
  | true =>
    simp only [if_true, impl_Jacobi_size.f, impl_length_int64.f, impl_within.f, Option.bind_some, impl_Jacobi_field.f, impl_areAll_has.f, impl_areAll_isUnit.f, Bool.true_and]
    by_cases c1 : (1 : Int) ≤ A.length
    · by_cases c2 : (A.length : Int) ≤ 12
      · simp only [if_pos c1, Option.bind_some, c1, c2, decide_true, if_true, Bool.true_and]
        by_cases c3 : B.length = A.length
        · simp only [if_pos (show (B.length : Int) = A.length by omega), c3, decide_true, Bool.true_and]
          cases A.all (hasB p) with
          | true => simp only [if_true, Bool.true_and]; exact Ev.now _
          | false => simp only [Bool.false_eq_true, if_false, Bool.false_and]; exact Ev.now _
        · simp only [if_neg (show ¬ (B.length : Int) = A.length by omega), decide_eq_false c3, Bool.false_and]; exact Ev.now _
      · simp only [if_pos c1, Option.bind_some, c1, c2, decide_true, decide_false, Bool.and_false, Bool.false_and, Bool.false_eq_true, if_false]; exact Ev.now _
    · simp only [if_neg c1, Option.bind_some, c1, decide_false, Bool.and_false, Bool.false_and, Bool.false_eq_true, if_false]; exact Ev.now _
theorem toJ_same (q : Int) (A B : List Int) (hA : A.length ≤ 1048576) (hB : B.length ≤ 1048576) : Ev (fun k => laws_toJacobi.f k q A B) (q, A, B) := by
  simp only [laws_toJacobi.f]
  refine Ev.bind (toI_same A hA) ?_
  exact Ev.bind (toI_same B hB) (Ev.now _)
end Go.Proofs.Ytepigphelclpcaa.H
