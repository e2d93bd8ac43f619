/- Joined texts of a claim: the printed functions and what is proved of them. -/
import Derived.Test.YtlcbcbnnphehnaaMcdef1
/- Layer 1, part 4: products. -/
set_option linter.unusedVariables false
set_option linter.unusedSimpArgs false
namespace Go.Proofs.Ytlcbcbnnphehnaa.H
open Go.RowKit Go.Proofs.YtlcbcbnnphehnaaW.PrintWords Go.Proofs.YtlcbcbnnphehnaaW.PrintLast Go.Proofs.Ytlcbcbnnphehnaa.Num

def pr1 (p x : Int) (g : List Int) (i : Nat) : List Int → Nat → Nat → List Int
  | acc, _, 0 => acc
  | acc, j, d + 1 => pr1 p x g i (acc.set (i + j) ((acc.getD (i + j) 0 + x * g.getD j 0) % p)) (j + 1) d
def pr0 (p : Int) (f g : List Int) : List Int → Nat → Nat → List Int
  | acc, _, 0 => acc
  | acc, i, d + 1 => pr0 p f g (pr1 p (f.getD i 0) g i acc 0 g.length) (i + 1) d
def mulW (p : Int) (f g : List Int) : List Int := pr0 p f g (List.replicate (f.length + g.length - 1) 0) 0 f.length
def mulL (p : Int) (f g : List Int) : List Int := if f.length = 0 ∨ g.length = 0 then [] else trimL (mulW p f g)
theorem pr1_len (p x : Int) (g : List Int) (i : Nat) : ∀ d j acc, (pr1 p x g i acc j d).length = acc.length
  | 0, _, _ => rfl
  | d + 1, j, acc => by simp [pr1, pr1_len p x g i d]
theorem pr0_len (p : Int) (f g : List Int) : ∀ d i acc, (pr0 p f g acc i d).length = acc.length
  | 0, _, _ => rfl
  | d + 1, i, acc => by simp [pr0, pr0_len p f g d, pr1_len]
theorem pr1_inR {p x : Int} (hp : 0 < p) (g : List Int) (i : Nat) : ∀ d j acc, InR p acc → InR p (pr1 p x g i acc j d)
  | 0, _, _, h => h
  | d + 1, j, acc, h => pr1_inR hp g i d (j + 1) _ (h.set _ (emod_bd hp))
theorem pr0_inR {p : Int} (hp : 0 < p) (f g : List Int) : ∀ d i acc, InR p acc → InR p (pr0 p f g acc i d)
  | 0, _, _, h => h
  | d + 1, i, acc, h => pr0_inR hp f g d (i + 1) _ (pr1_inR hp g i _ _ _ h)
theorem mulW_len (p : Int) (f g : List Int) : (mulW p f g).length = f.length + g.length - 1 := by simp [mulW, pr0_len]
theorem mulW_inR {p : Int} (hp : 0 < p) (f g : List Int) : InR p (mulW p f g) := pr0_inR hp f g _ _ _ (InR.zeros hp _)
theorem mulL_inR {p : Int} (hp : 0 < p) (f g : List Int) : InR p (mulL p f g) := by
  unfold mulL; split
  · exact InR.nil
  · exact (mulW_inR hp f g).trim
theorem mulL_len (p : Int) (f g : List Int) : (mulL p f g).length ≤ f.length + g.length - 1 := by
  unfold mulL; split
  · simp
  · have := trimL_len (mulW p f g); rw [mulW_len] at this; exact this

theorem spec_step {p : Int} {f g acc : List Int} (k i j : Nat) (hp : 2 ≤ p) (hi : i < f.length) (hj : j < g.length) (hL : i + j < acc.length) (h5 : i + j ≤ 100000)
    (hb : 0 ≤ f.getD i 0 * g.getD j 0 ∧ f.getD i 0 * g.getD j 0 ≤ 1000700000) (ha : 0 ≤ acc.getD (i + j) 0 ∧ acc.getD (i + j) 0 ≤ 100000) :
    spec_l01Times.l1 (k + 1) p f g acc (i : Int) (j : Int) = spec_l01Times.l1 k p f g (acc.set (i + j) ((acc.getD (i + j) 0 + f.getD i 0 * g.getD j 0) % p)) (i : Int) ((j + 1 : Nat) : Int) := by
  have hw : wrap64 ((i : Int) + (j : Int)) = ((i + j : Nat) : Int) := by rw [w64 (by omega) (by omega)]; omega
  have q1 : (j : Int) < (g.length : Int) := by omega
  have q2 : (0 : Int) ≤ ((i + j : Nat) : Int) := by omega
  have q3 : ((i + j : Nat) : Int) < (acc.length : Int) := by omega
  have q4 : (0 : Int) ≤ (i : Int) := by omega
  have q5 : (i : Int) < (f.length : Int) := by omega
  have q6 : (0 : Int) ≤ (j : Int) := by omega
  have q7 : ¬ p = 0 := by omega
  have w1 : wrap64 (f.getD i 0 * g.getD j 0) = f.getD i 0 * g.getD j 0 := w64 (by omega) (by omega)
  have w2 : wrap64 (acc.getD (i + j) 0 + f.getD i 0 * g.getD j 0) = acc.getD (i + j) 0 + f.getD i 0 * g.getD j 0 := w64 (by omega) (by omega)
  have w3 : wrap64 ((j : Int) + 1) = ((j + 1 : Nat) : Int) := wn (by omega)
  have w4 : Int.tmod (acc.getD (i + j) 0 + f.getD i 0 * g.getD j 0) p = (acc.getD (i + j) 0 + f.getD i 0 * g.getD j 0) % p := tmod_nn (by omega)
  simp only [spec_l01Times.l1, hw]
  rw [if_pos q1, if_pos q2, if_pos q3, if_pos q4, if_pos q5, if_pos q6, if_neg q7, rd_nat, rd_nat, rd_nat, w1, w2, w3, w4, Int.toNat_natCast]

theorem impl_step {p : Int} {f g acc : List Int} (k i j : Nat) (hp : 2 ≤ p) (hp2 : p ≤ 10007) (hi : i < f.length) (hj : j < g.length) (hL : i + j < acc.length) (h5 : i + j ≤ 100000)
    (hb : 0 ≤ f.getD i 0 * g.getD j 0 ∧ f.getD i 0 * g.getD j 0 ≤ 1000700000) (ha : 0 ≤ acc.getD (i + j) 0 ∧ acc.getD (i + j) 0 ≤ 100000) (n : Int) :
    impl_field_product.l1 (k + 1) p g acc (i : Int) (f.getD i 0) f n (i : Int) g (g.length : Int) (j : Int) = impl_field_product.l1 k p g (acc.set (i + j) ((acc.getD (i + j) 0 + f.getD i 0 * g.getD j 0) % p)) (i : Int) (f.getD i 0) f n (i : Int) g (g.length : Int) ((j + 1 : Nat) : Int) := by
  have hw : wrap64 ((i : Int) + (j : Int)) = ((i + j : Nat) : Int) := by rw [w64 (by omega) (by omega)]; omega
  have q1 : (j : Int) < (g.length : Int) := by omega
  have q2 : (0 : Int) ≤ ((i + j : Nat) : Int) := by omega
  have q3 : ((i + j : Nat) : Int) < (acc.length : Int) := by omega
  have q6 : (0 : Int) ≤ (j : Int) := by omega
  have w1 : wrap64 (f.getD i 0 * g.getD j 0) = f.getD i 0 * g.getD j 0 := w64 (by omega) (by omega)
  have w2 : wrap64 (acc.getD (i + j) 0 + f.getD i 0 * g.getD j 0) = acc.getD (i + j) 0 + f.getD i 0 * g.getD j 0 := w64 (by omega) (by omega)
  have w3 : wrap64 ((j : Int) + 1) = ((j + 1 : Nat) : Int) := wn (by omega)
  have w4 : impl_field_mod.f p (acc.getD (i + j) 0 + f.getD i 0 * g.getD j 0) = some ((acc.getD (i + j) 0 + f.getD i 0 * g.getD j 0) % p) := impl_mod (by omega) (by omega)
  simp only [impl_field_product.l1, hw]
  rw [if_pos q1, if_pos q6, if_pos q1, if_pos q2, if_pos q3, rd_nat, rd_nat, w1, w2, w3, w4, Int.toNat_natCast, Option.bind_some]

set_option maxHeartbeats 2000000 in
theorem spec_product {p : Int} {f g : List Int} (hp : 2 ≤ p) (hp2 : p ≤ 10007) (hf : f.length ≤ 1000) (hg : g.length ≤ 1000) (rf : InR p f) (rg : InR p g) : Ev (fun k => spec_l01Times.f k p f g) (mulL p f g) := by
  have inner : ∀ (i : Nat) (r : List Int), i < f.length → ∀ d j (acc : List Int), j + d = g.length → acc.length = f.length + g.length - 1 → InR p acc →
      Ev (fun k => spec_l01Times.l0 k p f g (pr1 p (f.getD i 0) g i acc j d) ((i + 1 : Nat) : Int)) r → Ev (fun k => spec_l01Times.l1 k p f g acc (i : Int) (j : Int)) r := by
    intro i r hi d
    induction d with
    | zero =>
      intro j acc h1 h2 h3 ⟨K, h⟩
      refine ⟨K + 1, fun k hk => ?_⟩
      obtain ⟨k, rfl⟩ : ∃ m, k = m + 1 := ⟨k - 1, by omega⟩
      have e := h k (by omega)
      simp only [pr1] at e
      simp only [spec_l01Times.l1]
      rw [if_neg (by omega), wn (by omega), e]
    | succ d ih =>
      intro j acc h1 h2 h3 h
      obtain ⟨K, h⟩ := ih (j + 1) (acc.set (i + j) ((acc.getD (i + j) 0 + f.getD i 0 * g.getD j 0) % p)) (by omega) (by simpa using h2) (h3.set _ (emod_bd (by omega))) h
      refine ⟨K + 1, fun k hk => ?_⟩
      obtain ⟨k, rfl⟩ : ∃ m, k = m + 1 := ⟨k - 1, by omega⟩
      have e := h k (by omega)
      simp only at e
      have hb := mul_bd2 hp2 (rf.get (by omega) i) (y := g.getD j 0) (by have := rg.get (by omega) j; omega)
      have ha := h3.get (by omega) (i + j)
      exact (spec_step k i j hp hi (by omega) (by omega) (by omega) hb ⟨ha.1, by omega⟩).trans e
  have outer : ∀ d i (acc : List Int), i + d = f.length → acc.length = f.length + g.length - 1 → InR p acc → Ev (fun k => spec_l01Times.l0 k p f g acc (i : Int)) (trimL (pr0 p f g acc i d)) := by
    intro d
    induction d with
    | zero =>
      intro i acc h1 h2 h3
      obtain ⟨K, h⟩ := spec_trim acc (by omega)
      refine ⟨K + 1, fun k hk => ?_⟩
      obtain ⟨k, rfl⟩ : ∃ m, k = m + 1 := ⟨k - 1, by omega⟩
      have e := h k (by omega)
      simp only at e
      simp only [spec_l01Times.l0]
      rw [if_neg (by omega), e]
      simp [pr0]
    | succ d ih =>
      intro i acc h1 h2 h3
      have hin := inner i _ (by omega) g.length 0 acc (by omega) h2 h3 (ih (i + 1) (pr1 p (f.getD i 0) g i acc 0 g.length) (by omega) (by rw [pr1_len]; exact h2) (pr1_inR (by omega) g i _ _ _ h3))
      obtain ⟨K, h⟩ := hin
      refine ⟨K + 1, fun k hk => ?_⟩
      obtain ⟨k, rfl⟩ : ∃ m, k = m + 1 := ⟨k - 1, by omega⟩
      have e := h k (by omega)
      simp only [Int.natCast_zero] at e
      simp only [spec_l01Times.l0]
      rw [if_pos (by omega), e]
      rfl
  unfold mulL
  by_cases h0 : f.length = 0 ∨ g.length = 0
  · rw [if_pos h0]
    refine ⟨1, fun k hk => ?_⟩
    obtain ⟨k, rfl⟩ : ∃ m, k = m + 1 := ⟨k - 1, by omega⟩
    simp only [spec_l01Times.f]
    by_cases hf0 : (f.length : Int) = 0
    · rw [if_pos hf0]; simp only [spec_l01Times.j0, if_true]
    · rw [if_neg hf0]
      have hz : ((g.length : Int) == 0) = true := beq_iff_eq.mpr (by omega)
      rw [hz]; simp only [spec_l01Times.j0, if_true]
  · rw [if_neg h0]
    obtain ⟨K, h⟩ := outer f.length 0 (List.replicate (f.length + g.length - 1) 0) (by omega) (by simp) (InR.zeros (by omega) _)
    refine ⟨K + 1, fun k hk => ?_⟩
    obtain ⟨k, rfl⟩ : ∃ m, k = m + 1 := ⟨k - 1, by omega⟩
    have e := h k (by omega)
    simp only [Int.natCast_zero] at e
    have hz : ((g.length : Int) == 0) = false := beq_eq_false_iff_ne.mpr (by omega)
    have hw : wrap64 (wrap64 ((f.length : Int) + (g.length : Int)) - 1) = ((f.length + g.length - 1 : Nat) : Int) := by rw [w64 (x := (f.length : Int) + (g.length : Int)) (by omega) (by omega), w64 (by omega) (by omega)]; omega
    simp only [spec_l01Times.f]
    rw [if_neg (by omega), hz]
    simp only [spec_l01Times.j0, hw, Bool.false_eq_true, if_false]
    rw [if_pos (by omega), if_pos (by omega), Int.toNat_natCast, e]
    rfl

set_option maxHeartbeats 2000000 in
theorem impl_product {p : Int} {f g : List Int} (hp : 2 ≤ p) (hp2 : p ≤ 10007) (hf : f.length ≤ 1000) (hg : g.length ≤ 1000) (rf : InR p f) (rg : InR p g) : Ev (fun k => impl_field_product.f k p f g) (mulL p f g) := by
  have inner : ∀ (i : Nat) (r : List Int), i < f.length → ∀ d j (acc : List Int), j + d = g.length → acc.length = f.length + g.length - 1 → InR p acc →
      Ev (fun k => impl_field_product.l0 k p g (pr1 p (f.getD i 0) g i acc j d) f (f.length : Int) ((i + 1 : Nat) : Int)) r → Ev (fun k => impl_field_product.l1 k p g acc (i : Int) (f.getD i 0) f (f.length : Int) (i : Int) g (g.length : Int) (j : Int)) r := by
    intro i r hi d
    induction d with
    | zero =>
      intro j acc h1 h2 h3 ⟨K, h⟩
      refine ⟨K + 1, fun k hk => ?_⟩
      obtain ⟨k, rfl⟩ : ∃ m, k = m + 1 := ⟨k - 1, by omega⟩
      have e := h k (by omega)
      simp only [pr1] at e
      simp only [impl_field_product.l1]
      rw [if_neg (by omega), wn (by omega), e]
    | succ d ih =>
      intro j acc h1 h2 h3 h
      obtain ⟨K, h⟩ := ih (j + 1) (acc.set (i + j) ((acc.getD (i + j) 0 + f.getD i 0 * g.getD j 0) % p)) (by omega) (by simpa using h2) (h3.set _ (emod_bd (by omega))) h
      refine ⟨K + 1, fun k hk => ?_⟩
      obtain ⟨k, rfl⟩ : ∃ m, k = m + 1 := ⟨k - 1, by omega⟩
      have e := h k (by omega)
      simp only at e
      have hb := mul_bd2 hp2 (rf.get (by omega) i) (y := g.getD j 0) (by have := rg.get (by omega) j; omega)
      have ha := h3.get (by omega) (i + j)
      exact (impl_step k i j hp hp2 hi (by omega) (by omega) (by omega) hb ⟨ha.1, by omega⟩ _).trans e
  have outer : ∀ d i (acc : List Int), i + d = f.length → acc.length = f.length + g.length - 1 → InR p acc → Ev (fun k => impl_field_product.l0 k p g acc f (f.length : Int) (i : Int)) (trimL (pr0 p f g acc i d)) := by
    intro d
    induction d with
    | zero =>
      intro i acc h1 h2 h3
      obtain ⟨K, h⟩ := impl_trim acc (by omega)
      refine ⟨K + 1, fun k hk => ?_⟩
      obtain ⟨k, rfl⟩ : ∃ m, k = m + 1 := ⟨k - 1, by omega⟩
      have e := h k (by omega)
      simp only at e
      simp only [impl_field_product.l0]
      rw [if_neg (by omega), e]
      simp [pr0]
    | succ d ih =>
      intro i acc h1 h2 h3
      have hin := inner i _ (by omega) g.length 0 acc (by omega) h2 h3 (ih (i + 1) (pr1 p (f.getD i 0) g i acc 0 g.length) (by omega) (by rw [pr1_len]; exact h2) (pr1_inR (by omega) g i _ _ _ h3))
      obtain ⟨K, h⟩ := hin
      refine ⟨K + 1, fun k hk => ?_⟩
      obtain ⟨k, rfl⟩ : ∃ m, k = m + 1 := ⟨k - 1, by omega⟩
      have e := h k (by omega)
      simp only [Int.natCast_zero] at e
      simp only [impl_field_product.l0]
      rw [if_pos (by omega), if_pos (by omega), if_pos (by omega), rd_nat, e]
      rfl
  unfold mulL
  by_cases h0 : f.length = 0 ∨ g.length = 0
  · rw [if_pos h0]
    refine ⟨1, fun k hk => ?_⟩
    obtain ⟨k, rfl⟩ : ∃ m, k = m + 1 := ⟨k - 1, by omega⟩
    simp only [impl_field_product.f]
    by_cases hf0 : (f.length : Int) = 0
    · rw [if_pos hf0]; simp only [impl_field_product.j0, if_true]
    · rw [if_neg hf0]
      have hz : ((g.length : Int) == 0) = true := beq_iff_eq.mpr (by omega)
      rw [hz]; simp only [impl_field_product.j0, if_true]
  · rw [if_neg h0]
    obtain ⟨K, h⟩ := outer f.length 0 (List.replicate (f.length + g.length - 1) 0) (by omega) (by simp) (InR.zeros (by omega) _)
    refine ⟨K + 1, fun k hk => ?_⟩
    obtain ⟨k, rfl⟩ : ∃ m, k = m + 1 := ⟨k - 1, by omega⟩
    have e := h k (by omega)
    simp only [Int.natCast_zero] at e
    have hz : ((g.length : Int) == 0) = false := beq_eq_false_iff_ne.mpr (by omega)
    have hw : wrap64 (wrap64 ((f.length : Int) + (g.length : Int)) - 1) = ((f.length + g.length - 1 : Nat) : Int) := by rw [w64 (x := (f.length : Int) + (g.length : Int)) (by omega) (by omega), w64 (by omega) (by omega)]; omega
    simp only [impl_field_product.f]
    rw [if_neg (by omega), hz]
    simp only [impl_field_product.j0, hw, Bool.false_eq_true, if_false]
    rw [if_pos (by omega), if_pos (by omega), Int.toNat_natCast, e]
    rfl

/-! ## degrees of products -/
theorem trimL_id {l : List Int} (h : l.length = 0 ∨ l.getD (l.length - 1) 0 ≠ 0) : trimL l = l := by
  unfold trimL
  rcases h with h | h
  · rw [h]; simp [tlen]; exact List.eq_nil_of_length_eq_zero h
  · obtain ⟨n, hn⟩ : ∃ n, l.length = n + 1 ∨ l.length = 0 := ⟨l.length - 1, by omega⟩
    rcases hn with hn | hn
    · rw [hn] at h ⊢
      simp only [Nat.add_sub_cancel] at h
      simp only [tlen, if_neg h]
      exact List.take_of_length_le (by omega)
    · rw [hn]; simp [tlen]; exact List.eq_nil_of_length_eq_zero hn
theorem mul_ne0 {p x y : Int} (hp : IsP p) (hx : 0 < x ∧ x < p) (hy : 0 < y ∧ y < p) : x * y % p ≠ 0 := by
  intro h
  obtain ⟨a, rfl⟩ : ∃ a : Nat, x = a := ⟨x.toNat, by omega⟩
  obtain ⟨b, rfl⟩ : ∃ b : Nat, y = b := ⟨y.toNat, by omega⟩
  obtain ⟨n, hn⟩ : ∃ n : Nat, p = n := ⟨p.toNat, by have := hp.1; omega⟩
  subst hn
  have hd : n ∣ a * b := by
    apply Nat.dvd_of_mod_eq_zero
    have : ((a * b % n : Nat) : Int) = 0 := by simpa using h
    omega
  have hpr : Pr n := by simpa using hp.2.2
  rcases hpr.euclid hd with h' | h'
  · have := Nat.le_of_dvd (by omega) h'; omega
  · have := Nat.le_of_dvd (by omega) h'; omega
theorem pr1_other (p x : Int) (g : List Int) (i t : Nat) : ∀ d j acc, (t < i + j ∨ i + j + d ≤ t) → (pr1 p x g i acc j d).getD t 0 = acc.getD t 0
  | 0, _, _, _ => rfl
  | d + 1, j, acc, h => by
    rw [pr1, pr1_other p x g i t d (j + 1) _ (by omega)]
    simp only [List.getD_eq_getElem?_getD]
    rw [List.getElem?_set_ne (by omega)]
theorem pr1_snoc (p x : Int) (g : List Int) (i : Nat) : ∀ d j acc, pr1 p x g i acc j (d + 1) = (pr1 p x g i acc j d).set (i + (j + d)) (((pr1 p x g i acc j d).getD (i + (j + d)) 0 + x * g.getD (j + d) 0) % p)
  | 0, j, acc => rfl
  | d + 1, j, acc => by
    rw [pr1, pr1_snoc p x g i d (j + 1)]
    simp only [pr1, show j + 1 + d = j + (d + 1) by omega]
theorem pr0_snoc (p : Int) (f g : List Int) : ∀ d i acc, pr0 p f g acc i (d + 1) = pr1 p (f.getD (i + d) 0) g (i + d) (pr0 p f g acc i d) 0 g.length
  | 0, i, acc => rfl
  | d + 1, i, acc => by
    rw [pr0, pr0_snoc p f g d (i + 1)]
    simp only [pr0, show i + 1 + d = i + (d + 1) by omega]
theorem pr0_other (p : Int) (f g : List Int) (t : Nat) : ∀ d i acc, i + d + g.length ≤ t + 1 → (pr0 p f g acc i d).getD t 0 = acc.getD t 0
  | 0, _, _, _ => rfl
  | d + 1, i, acc, h => by
    rw [pr0, pr0_other p f g t d (i + 1) _ (by omega), pr1_other _ _ _ _ _ _ _ _ (by omega)]
/-- the last number of a product -/
theorem mulW_top {p : Int} {f g : List Int} (hf : 0 < f.length) (hg : 0 < g.length) : (mulW p f g).getD (f.length + g.length - 2) 0 = f.getD (f.length - 1) 0 * g.getD (g.length - 1) 0 % p := by
  obtain ⟨n, hn⟩ : ∃ n, f.length = n + 1 := ⟨f.length - 1, by omega⟩
  obtain ⟨m, hm⟩ : ∃ m, g.length = m + 1 := ⟨g.length - 1, by omega⟩
  have hl : ∀ d, (pr0 p f g (List.replicate (n + 1 + (m + 1) - 1) 0) 0 d).length = n + m + 1 := fun d => by rw [pr0_len]; simp; omega
  unfold mulW
  rw [hn, hm, pr0_snoc, hm, pr1_snoc]
  simp only [Nat.zero_add]
  rw [show n + 1 + (m + 1) - 2 = n + m by omega, show n + 1 - 1 = n by omega, show m + 1 - 1 = m by omega]
  simp only [List.getD_eq_getElem?_getD]
  rw [List.getElem?_set_self (by rw [pr1_len, hl]; omega)]
  simp only [Option.getD_some]
  rw [← List.getD_eq_getElem?_getD, pr1_other _ _ _ _ _ _ _ _ (by omega), pr0_other _ _ _ _ _ _ _ (by omega)]
  simp [List.getD_eq_getElem?_getD, List.getElem?_replicate]

theorem Po.last_bd {p : Int} {f : List Int} (h : Po p f) (hp : 0 < p) (h0 : 0 < f.length) : 0 < f.getD (f.length - 1) 0 ∧ f.getD (f.length - 1) 0 < p := by
  have h1 := h.inR.get hp (f.length - 1)
  rcases h.last with h2 | h2
  · omega
  · rw [show (f.length : Int) - 1 = ((f.length - 1 : Nat) : Int) by omega, rd_nat] at h2
    omega

theorem mulL_len_eq {p : Int} {f g : List Int} (hp : IsP p) (pf : Po p f) (pg : Po p g) (hf : 0 < f.length) (hg : 0 < g.length) : mulL p f g = mulW p f g := by
  unfold mulL
  rw [if_neg (by omega), trimL_id]
  right
  rw [mulW_len, show f.length + g.length - 1 - 1 = f.length + g.length - 2 by omega, mulW_top hf hg]
  exact mul_ne0 hp (pf.last_bd (by have := hp.1; omega) hf) (pg.last_bd (by have := hp.1; omega) hg)

end Go.Proofs.Ytlcbcbnnphehnaa.H
