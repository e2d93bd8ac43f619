/- Joined texts of a claim: the printed functions and what is proved of them. -/
import Derived.Test.YtmadpicanmjhhaaGreatDoorMa5
import Derived.Test.YtmadpicanmjhhaaGreatDoorMa2
import Derived.Test.YtmadpicanmjhhaaGreatDoorMa4
import Derived.Test.YtmadpicanmjhhaaGreatDoorYHx0
import Derived.Test.YtmadpicanmjhhaaGreatDoorMa3
import Derived.Test.YtmadpicanmjhhaaGreatDoorMa1
set_option linter.unusedVariables false
set_option linter.unusedSimpArgs false
namespace Go.Proofs.YtmadpicanmjhhaaGreatDoor.H
open Go.RowKit Go.Proofs.YtmadpicanmjhhaaGreatDoorW.PrintWords Go.Proofs.YtmadpicanmjhhaaGreatDoorW.PrintLast Go.Proofs.YtmadpicanmjhhaaGreatDoor.Num
def pr1 (p x : Int) (g : List Int) (i : Nat) : List Int → Nat → Nat → List Int
 | acc, _, 0 => acc
 | acc, j, d + 1 => pr1 p x g i (acc.set (i + j) ((acc.getD (i + j) 0 + x * g.getD j 0) % p)) (j + 1) d
def pr0 (p : Int) (f g : List Int) : List Int → Nat → Nat → List Int
 | acc, _, 0 => acc
 | acc, i, d + 1 => pr0 p f g (pr1 p (f.getD i 0) g i acc 0 g.length) (i + 1) d
def mulW (p : Int) (f g : List Int) : List Int := pr0 p f g (List.replicate (f.length + g.length - 1) 0) 0 f.length
def mulL (p : Int) (f g : List Int) : List Int := if f.length = 0 ∨ g.length = 0 then [] else trimL (mulW p f g)
theorem pr1_len (p x : Int) (g : List Int) (i : Nat) : ∀ d j acc, (pr1 p x g i acc j d).length = acc.length
 | 0, _, _ => rfl
 | d + 1, j, acc => by simp [pr1, pr1_len p x g i d]
theorem pr0_len (p : Int) (f g : List Int) : ∀ d i acc, (pr0 p f g acc i d).length = acc.length
 | 0, _, _ => rfl
 | d + 1, i, acc => by simp [pr0, pr0_len p f g d, pr1_len]
theorem pr1_inR {p x : Int} (hp : 0 < p) (g : List Int) (i : Nat) : ∀ d j acc, InR p acc → InR p (pr1 p x g i acc j d)
 | 0, _, _, h => h
 | d + 1, j, acc, h => pr1_inR hp g i d (j + 1) _ (h.set _ (emod_bd hp))
theorem pr0_inR {p : Int} (hp : 0 < p) (f g : List Int) : ∀ d i acc, InR p acc → InR p (pr0 p f g acc i d)
 | 0, _, _, h => h
 | d + 1, i, acc, h => pr0_inR hp f g d (i + 1) _ (pr1_inR hp g i _ _ _ h)
theorem mulW_len (p : Int) (f g : List Int) : (mulW p f g).length = f.length + g.length - 1 := by simp [mulW, pr0_len]
theorem mulW_inR {p : Int} (hp : 0 < p) (f g : List Int) : InR p (mulW p f g) := pr0_inR hp f g _ _ _ (InR.zeros hp _)
theorem mulL_inR {p : Int} (hp : 0 < p) (f g : List Int) : InR p (mulL p f g) := by
 unfold mulL; split
 ·
  exact InR.nil
 ·
  exact (mulW_inR hp f g).trim
theorem mulL_len (p : Int) (f g : List Int) : (mulL p f g).length ≤ f.length + g.length - 1 := by
 unfold mulL; split
 ·
  simp
 ·
  have := trimL_len (mulW p f g); rw [mulW_len] at this; exact this
theorem spec_step {p : Int} {f g acc : List Int} (k i j : Nat) (hp : 2 ≤ p) (hi : i < f.length) (hj : j < g.length) (hL : i + j < acc.length) (h5 : i + j ≤ 100000)
  (hb : 0 ≤ f.getD i 0 * g.getD j 0 ∧ f.getD i 0 * g.getD j 0 ≤ 1000700000) (ha : 0 ≤ acc.getD (i + j) 0 ∧ acc.getD (i + j) 0 ≤ 100000) :
  spec_l01Times.l1 (k + 1) p f g acc (i : Int) (j : Int) = spec_l01Times.l1 k p f g (acc.set (i + j) ((acc.getD (i + j) 0 + f.getD i 0 * g.getD j 0) % p)) (i : Int) ((j + 1 : Nat) : Int) := by
 have hw : wrap64 ((i : Int) + (j : Int)) = ((i + j : Nat) : Int) := by rw [w64 (by omega) (by omega)]; omega
 have q1 : (j : Int) < (g.length : Int) := by omega
 have q2 : (0 : Int) ≤ ((i + j : Nat) : Int) := by omega
 have q3 : ((i + j : Nat) : Int) < (acc.length : Int) := by omega
 have q4 : (0 : Int) ≤ (i : Int) := by omega
 have q5 : (i : Int) < (f.length : Int) := by omega
 have q6 : (0 : Int) ≤ (j : Int) := by omega
 have q7 : ¬ p = 0 := by omega
 have w1 : wrap64 (f.getD i 0 * g.getD j 0) = f.getD i 0 * g.getD j 0 := w64 (by omega) (by omega)
 have w2 : wrap64 (acc.getD (i + j) 0 + f.getD i 0 * g.getD j 0) = acc.getD (i + j) 0 + f.getD i 0 * g.getD j 0 := w64 (by omega) (by omega)
 have w3 : wrap64 ((j : Int) + 1) = ((j + 1 : Nat) : Int) := wn (by omega)
 have w4 : Int.tmod (acc.getD (i + j) 0 + f.getD i 0 * g.getD j 0) p = (acc.getD (i + j) 0 + f.getD i 0 * g.getD j 0) % p := tmod_nn (by omega)
 simp only [spec_l01Times.l1, hw]
 rw [if_pos q1, if_pos q2, if_pos q3, if_pos q4, if_pos q5, if_pos q6, if_neg q7, rd_nat, rd_nat, rd_nat, w1, w2, w3, w4, Int.toNat_natCast]
theorem impl_step {p : Int} {f g acc : List Int} (k i j : Nat) (hp : 2 ≤ p) (hp2 : p ≤ 10007) (hi : i < f.length) (hj : j < g.length) (hL : i + j < acc.length) (h5 : i + j ≤ 100000)
  (hb : 0 ≤ f.getD i 0 * g.getD j 0 ∧ f.getD i 0 * g.getD j 0 ≤ 1000700000) (ha : 0 ≤ acc.getD (i + j) 0 ∧ acc.getD (i + j) 0 ≤ 100000) (n : Int) :
  impl_field_product.l1 (k + 1) p g acc (i : Int) (f.getD i 0) f n (i : Int) g (g.length : Int) (j : Int) = impl_field_product.l1 k p g (acc.set (i + j) ((acc.getD (i + j) 0 + f.getD i 0 * g.getD j 0) % p)) (i : Int) (f.getD i 0) f n (i : Int) g (g.length : Int) ((j + 1 : Nat) : Int) := by
 have hw : wrap64 ((i : Int) + (j : Int)) = ((i + j : Nat) : Int) := by rw [w64 (by omega) (by omega)]; omega
 have q1 : (j : Int) < (g.length : Int) := by omega
 have q2 : (0 : Int) ≤ ((i + j : Nat) : Int) := by omega
 have q3 : ((i + j : Nat) : Int) < (acc.length : Int) := by omega
 have q6 : (0 : Int) ≤ (j : Int) := by omega
 have w1 : wrap64 (f.getD i 0 * g.getD j 0) = f.getD i 0 * g.getD j 0 := w64 (by omega) (by omega)
 have w2 : wrap64 (acc.getD (i + j) 0 + f.getD i 0 * g.getD j 0) = acc.getD (i + j) 0 + f.getD i 0 * g.getD j 0 := w64 (by omega) (by omega)
 have w3 : wrap64 ((j : Int) + 1) = ((j + 1 : Nat) : Int) := wn (by omega)
 have w4 : impl_field_mod.f p (acc.getD (i + j) 0 + f.getD i 0 * g.getD j 0) = some ((acc.getD (i + j) 0 + f.getD i 0 * g.getD j 0) % p) := impl_mod (by omega) (by omega)
 simp only [impl_field_product.l1, hw]
 rw [if_pos q1, if_pos q6, if_pos q1, if_pos q2, if_pos q3, rd_nat, rd_nat, w1, w2, w3, w4, Int.toNat_natCast, Option.bind_some]
set_option maxHeartbeats 2000000 in
theorem spec_product {p : Int} {f g : List Int} (hp : 2 ≤ p) (hp2 : p ≤ 10007) (hf : f.length ≤ 1000) (hg : g.length ≤ 1000) (rf : InR p f) (rg : InR p g) : Ev (fun k => spec_l01Times.f k p f g) (mulL p f g) := by
 have inner : ∀ (i : Nat) (r : List Int), i < f.length → ∀ d j (acc : List Int), j + d = g.length → acc.length = f.length + g.length - 1 → InR p acc →
   Ev (fun k => spec_l01Times.l0 k p f g (pr1 p (f.getD i 0) g i acc j d) ((i + 1 : Nat) : Int)) r → Ev (fun k => spec_l01Times.l1 k p f g acc (i : Int) (j : Int)) r := by
  intro i r hi d
  induction d with
  | zero =>
   intro j acc h1 h2 h3 ⟨K, h⟩
   refine ⟨K + 1, fun k hk => ?_⟩
   obtain ⟨k, rfl⟩ : ∃ m, k = m + 1 := ⟨k - 1, by omega⟩
   have e := h k (by omega)
   simp only [pr1] at e
   simp only [spec_l01Times.l1]
   rw [if_neg (by omega), wn (by omega), e]
  | succ d ih =>
   intro j acc h1 h2 h3 h
   obtain ⟨K, h⟩ := ih (j + 1) (acc.set (i + j) ((acc.getD (i + j) 0 + f.getD i 0 * g.getD j 0) % p)) (by omega) (by simpa using h2) (h3.set _ (emod_bd (by omega))) h
   refine ⟨K + 1, fun k hk => ?_⟩
   obtain ⟨k, rfl⟩ : ∃ m, k = m + 1 := ⟨k - 1, by omega⟩
   have e := h k (by omega)
   simp only at e
   have hb := mul_bd2 hp2 (rf.get (by omega) i) (y := g.getD j 0) (by have := rg.get (by omega) j; omega)
   have ha := h3.get (by omega) (i + j)
   exact (spec_step k i j hp hi (by omega) (by omega) (by omega) hb ⟨ha.1, by omega⟩).trans e
 have outer : ∀ d i (acc : List Int), i + d = f.length → acc.length = f.length + g.length - 1 → InR p acc → Ev (fun k => spec_l01Times.l0 k p f g acc (i : Int)) (trimL (pr0 p f g acc i d)) := by
  intro d
  induction d with
  | zero =>
   intro i acc h1 h2 h3
   obtain ⟨K, h⟩ := spec_trim acc (by omega)
   refine ⟨K + 1, fun k hk => ?_⟩
   obtain ⟨k, rfl⟩ : ∃ m, k = m + 1 := ⟨k - 1, by omega⟩
   have e := h k (by omega)
   simp only at e
   simp only [spec_l01Times.l0]
   rw [if_neg (by omega), e]
   simp [pr0]
  | succ d ih =>
   intro i acc h1 h2 h3
   have hin := inner i _ (by omega) g.length 0 acc (by omega) h2 h3 (ih (i + 1) (pr1 p (f.getD i 0) g i acc 0 g.length) (by omega) (by rw [pr1_len]; exact h2) (pr1_inR (by omega) g i _ _ _ h3))
   obtain ⟨K, h⟩ := hin
   refine ⟨K + 1, fun k hk => ?_⟩
   obtain ⟨k, rfl⟩ : ∃ m, k = m + 1 := ⟨k - 1, by omega⟩
   have e := h k (by omega)
   simp only [Int.natCast_zero] at e
   simp only [spec_l01Times.l0]
   rw [if_pos (by omega), e]
   rfl
 unfold mulL
 by_cases h0 : f.length = 0 ∨ g.length = 0
 ·
  rw [if_pos h0]
  refine ⟨1, fun k hk => ?_⟩
  obtain ⟨k, rfl⟩ : ∃ m, k = m + 1 := ⟨k - 1, by omega⟩
  simp only [spec_l01Times.f]
  by_cases hf0 : (f.length : Int) = 0
  ·
   rw [if_pos hf0]; simp only [spec_l01Times.j0, if_true]
  ·
   rw [if_neg hf0]
   have hz : ((g.length : Int) == 0) = true := beq_iff_eq.mpr (by omega)
   rw [hz]; simp only [spec_l01Times.j0, if_true]
 ·
  rw [if_neg h0]
  obtain ⟨K, h⟩ := outer f.length 0 (List.replicate (f.length + g.length - 1) 0) (by omega) (by simp) (InR.zeros (by omega) _)
  refine ⟨K + 1, fun k hk => ?_⟩
  obtain ⟨k, rfl⟩ : ∃ m, k = m + 1 := ⟨k - 1, by omega⟩
  have e := h k (by omega)
  simp only [Int.natCast_zero] at e
  have hz : ((g.length : Int) == 0) = false := beq_eq_false_iff_ne.mpr (by omega)
  have hw : wrap64 (wrap64 ((f.length : Int) + (g.length : Int)) - 1) = ((f.length + g.length - 1 : Nat) : Int) := by rw [w64 (x := (f.length : Int) + (g.length : Int)) (by omega) (by omega), w64 (by omega) (by omega)]; omega
  simp only [spec_l01Times.f]
  rw [if_neg (by omega), hz]
  simp only [spec_l01Times.j0, hw, Bool.false_eq_true, if_false]
  rw [if_pos (by omega), if_pos (by omega), Int.toNat_natCast, e]
  rfl
set_option maxHeartbeats 2000000 in
theorem impl_product {p : Int} {f g : List Int} (hp : 2 ≤ p) (hp2 : p ≤ 10007) (hf : f.length ≤ 1000) (hg : g.length ≤ 1000) (rf : InR p f) (rg : InR p g) : Ev (fun k => impl_field_product.f k p f g) (mulL p f g) := by
 have inner : ∀ (i : Nat) (r : List Int), i < f.length → ∀ d j (acc : List Int), j + d = g.length → acc.length = f.length + g.length - 1 → InR p acc →
   Ev (fun k => impl_field_product.l0 k p g (pr1 p (f.getD i 0) g i acc j d) f (f.length : Int) ((i + 1 : Nat) : Int)) r → Ev (fun k => impl_field_product.l1 k p g acc (i : Int) (f.getD i 0) f (f.length : Int) (i : Int) g (g.length : Int) (j : Int)) r := by
  intro i r hi d
  induction d with
  | zero =>
   intro j acc h1 h2 h3 ⟨K, h⟩
   refine ⟨K + 1, fun k hk => ?_⟩
   obtain ⟨k, rfl⟩ : ∃ m, k = m + 1 := ⟨k - 1, by omega⟩
   have e := h k (by omega)
   simp only [pr1] at e
   simp only [impl_field_product.l1]
   rw [if_neg (by omega), wn (by omega), e]
  | succ d ih =>
   intro j acc h1 h2 h3 h
   obtain ⟨K, h⟩ := ih (j + 1) (acc.set (i + j) ((acc.getD (i + j) 0 + f.getD i 0 * g.getD j 0) % p)) (by omega) (by simpa using h2) (h3.set _ (emod_bd (by omega))) h
   refine ⟨K + 1, fun k hk => ?_⟩
   obtain ⟨k, rfl⟩ : ∃ m, k = m + 1 := ⟨k - 1, by omega⟩
   have e := h k (by omega)
   simp only at e
   have hb := mul_bd2 hp2 (rf.get (by omega) i) (y := g.getD j 0) (by have := rg.get (by omega) j; omega)
   have ha := h3.get (by omega) (i + j)
   exact (impl_step k i j hp hp2 hi (by omega) (by omega) (by omega) hb ⟨ha.1, by omega⟩ _).trans e
 have outer : ∀ d i (acc : List Int), i + d = f.length → acc.length = f.length + g.length - 1 → InR p acc → Ev (fun k => impl_field_product.l0 k p g acc f (f.length : Int) (i : Int)) (trimL (pr0 p f g acc i d)) := by
  intro d
  induction d with
  | zero =>
   intro i acc h1 h2 h3
   obtain ⟨K, h⟩ := impl_trim acc (by omega)
   refine ⟨K + 1, fun k hk => ?_⟩
   obtain ⟨k, rfl⟩ : ∃ m, k = m + 1 := ⟨k - 1, by omega⟩
   have e := h k (by omega)
   simp only at e
   simp only [impl_field_product.l0]
   rw [if_neg (by omega), e]
   simp [pr0]
  | succ d ih =>
   intro i acc h1 h2 h3
   have hin := inner i _ (by omega) g.length 0 acc (by omega) h2 h3 (ih (i + 1) (pr1 p (f.getD i 0) g i acc 0 g.length) (by omega) (by rw [pr1_len]; exact h2) (pr1_inR (by omega) g i _ _ _ h3))
   obtain ⟨K, h⟩ := hin
   refine ⟨K + 1, fun k hk => ?_⟩
   obtain ⟨k, rfl⟩ : ∃ m, k = m + 1 := ⟨k - 1, by omega⟩
   have e := h k (by omega)
   simp only [Int.natCast_zero] at e
   simp only [impl_field_product.l0]
   rw [if_pos (by omega), if_pos (by omega), if_pos (by omega), rd_nat, e]
   rfl
 unfold mulL
 by_cases h0 : f.length = 0 ∨ g.length = 0
 ·
  rw [if_pos h0]
  refine ⟨1, fun k hk => ?_⟩
  obtain ⟨k, rfl⟩ : ∃ m, k = m + 1 := ⟨k - 1, by omega⟩
  simp only [impl_field_product.f]
  by_cases hf0 : (f.length : Int) = 0
  ·
   rw [if_pos hf0]; simp only [impl_field_product.j0, if_true]
  ·
   rw [if_neg hf0]
   have hz : ((g.length : Int) == 0) = true := beq_iff_eq.mpr (by omega)
   rw [hz]; simp only [impl_field_product.j0, if_true]
 ·
  rw [if_neg h0]
  obtain ⟨K, h⟩ := outer f.length 0 (List.replicate (f.length + g.length - 1) 0) (by omega) (by simp) (InR.zeros (by omega) _)
  refine ⟨K + 1, fun k hk => ?_⟩
  obtain ⟨k, rfl⟩ : ∃ m, k = m + 1 := ⟨k - 1, by omega⟩
  have e := h k (by omega)
  simp only [Int.natCast_zero] at e
  have hz : ((g.length : Int) == 0) = false := beq_eq_false_iff_ne.mpr (by omega)
  have hw : wrap64 (wrap64 ((f.length : Int) + (g.length : Int)) - 1) = ((f.length + g.length - 1 : Nat) : Int) := by rw [w64 (x := (f.length : Int) + (g.length : Int)) (by omega) (by omega), w64 (by omega) (by omega)]; omega
  simp only [impl_field_product.f]
  rw [if_neg (by omega), hz]
  simp only [impl_field_product.j0, hw, Bool.false_eq_true, if_false]
  rw [if_pos (by omega), if_pos (by omega), Int.toNat_natCast, e]
  rfl
theorem mul_ne0 {p x y : Int} (hp : IsP p) (hx : 0 < x ∧ x < p) (hy : 0 < y ∧ y < p) : x * y % p ≠ 0 := by
 intro h
 obtain ⟨a, rfl⟩ : ∃ a : Nat, x = a := ⟨x.toNat, by omega⟩
 obtain ⟨b, rfl⟩ : ∃ b : Nat, y = b := ⟨y.toNat, by omega⟩
 obtain ⟨n, hn⟩ : ∃ n : Nat, p = n := ⟨p.toNat, by have := hp.1; omega⟩
 subst hn
 have hd : n ∣ a * b := by
  apply Nat.dvd_of_mod_eq_zero
  have : ((a * b % n : Nat) : Int) = 0 := by simpa using h
  omega
 have hpr : Pr n := by simpa using hp.2.2
 rcases hpr.euclid hd with h' | h'
 ·
  have := Nat.le_of_dvd (by omega) h'; omega
 ·
  have := Nat.le_of_dvd (by omega) h'; omega
end Go.Proofs.YtmadpicanmjhhaaGreatDoor.H
namespace Go.Proofs.YtmadpicanmjhhaaGreatDoor.H
open Go.RowKit Go.Proofs.YtmadpicanmjhhaaGreatDoorW.PrintWords Go.Proofs.YtmadpicanmjhhaaGreatDoorW.PrintLast Go.Proofs.YtmadpicanmjhhaaGreatDoorW.PrintMore
attribute [local go_sem] max2_int min2_int max_two min_two max_three min_three max_four min_four   -- for this text's walks alone
set_option linter.unusedVariables false
set_option linter.unusedSimpArgs false
attribute [local go_sem] Oper.semAt_some
open Go.Shelf
def compL (p : Int) (f g : List Int) : List Int := f.foldr (fun c acc => addL p (mulL p acc g) [1] c) []
def compOk (p : Int) (f g : List Int) : Bool := decide (2 ≤ p) && decide (p ≤ 10007) && f.all (hasB p) && g.all (hasB p) && decide (f.length ≤ 25) && decide (g.length ≤ 25)
def impl_field_compose.f (a0 : Int) (l1 l2 : List Int) : Option (List Int) := if compOk a0 l1 l2 = true then some (compL a0 l1 l2) else none
abbrev Rg (p : Int) : Type := { c : Int // 0 ≤ c ∧ c < p }
def compW (p : Int) (g : List Int) (l : List (Int × Rg p)) : List Int := l.foldl (fun acc x => addL p (mulL p acc g) [1] x.2.1) []
theorem compW_snoc (p : Int) (g : List Int) (l : List (Int × Rg p)) (x : Int × Rg p) : compW p g (l ++ [x]) = addL p (mulL p (compW p g l) g) [1] x.2.1 := by simp [compW]
theorem compW_len (p : Int) (g : List Int) (hg : g.length ≤ 25) (l : List (Int × Rg p)) : (compW p g l).length ≤ 24 * l.length + 1 := by
 have h : ∀ (l : List (Int × Rg p)) (acc : List Int), (l.foldl (fun acc x => addL p (mulL p acc g) [1] x.2.1) acc).length ≤ 24 * l.length + max acc.length 1 := by
  intro l
  induction l with
  | nil => intro acc; simp; omega
  | cons x l ih =>
   intro acc
   have h0 := ih (addL p (mulL p acc g) [1] x.2.1)
   have h1 := addL_len p (mulL p acc g) [1] x.2.1
   have h2 := mulL_len p acc g
   simp only [List.length_singleton] at h1
   simp only [List.foldl_cons, List.length_cons]
   omega
 exact h l []
theorem compW_inR {p : Int} (hp : 0 < p) (g : List Int) (l : List (Int × Rg p)) : InR p (compW p g l) := by
 have h : ∀ (l : List (Int × Rg p)) (acc : List Int), InR p acc → InR p (l.foldl (fun acc x => addL p (mulL p acc g) [1] x.2.1) acc) := by
  intro l
  induction l with
  | nil => intro acc h; exact h
  | cons x l ih => intro acc h; exact ih _ (addL_inR hp (mulL_inR hp _ _) _ _)
 exact h l [] InR.nil
theorem compW_all {p : Int} (hp : 0 < p) (f g : List Int) (hr : InR p f) : compW p g (bwUpto (fun j => (⟨f.getD j 0, hr.get hp j⟩ : Rg p)) f.length f.length) = compL p f g := by
 have h : ∀ k, k ≤ f.length → compW p g (bwUpto (fun j => (⟨f.getD j 0, hr.get hp j⟩ : Rg p)) f.length k) = compL p (f.drop (f.length - k)) g := by
  intro k
  induction k with
  | zero => intro _; simp [bwUpto, compW, compL]
  | succ k ih =>
   intro hk
   rw [bwUpto_succ, compW_snoc, ih (by omega), List.drop_eq_getElem_cons (show f.length - (k + 1) < f.length by omega), show f.length - (k + 1) + 1 = f.length - k by omega]
   simp only [compL, List.foldr_cons]
   simp only [show f.length - 1 - k = f.length - (k + 1) by omega]
   rw [List.getD_eq_getElem?_getD, List.getElem?_eq_getElem (by omega)]
   rfl
 have := h f.length (Nat.le_refl _)
 rwa [Nat.sub_self, List.drop_zero] at this
theorem grown_none {W w1 : World} (h : W.grownBy w1 none) : Below W.heap.size W w1 := ⟨h.os, h.tape, h.output, h.size, fun k hk => h.block k hk (by simp)⟩
set_option maxRecDepth 100000 in
set_option maxHeartbeats 8000000 in
theorem impl_field_compose.calls (a0 : Int) (A1 : Option Addr) (c1 : Nat) (l1 : List Int) (A2 : Option Addr) (c2 : Nat) (l2 : List Int) (r : List Int) (w : World) (hr1 : Kd.C (Kd.int .i64) w A1 l1.length l1) (hc1 : l1.length ≤ c1) (hr2 : Kd.C (Kd.int .i64) w A2 l2.length l2) (hc2 : l2.length ≤ c2) (h : impl_field_compose.f a0 l1 l2 = some r) :
  Calls Tryz.prog 41 #[.int .i64 a0, .slice A1 l1.length c1, .slice A2 l2.length c2] w fun e w' => ∃ v0_ : Value, e = .returned v0_ ∧ Kd.R (Kd.int .i64) 2 w' w.heap.size (fun _ => True) v0_ r ∧ Below w.heap.size w w' := by
 have hlen := Kd.C_max hr1
 unfold impl_field_compose.f at h
 by_cases hok : compOk a0 l1 l2 = true
 case neg => rw [if_neg hok] at h; cases h
 rw [if_pos hok] at h
 obtain rfl := Option.some.inj h
 clear h
 simp only [compOk, Bool.and_eq_true, decide_eq_true_eq, List.all_eq_true, hasB_iff] at hok
 obtain ⟨⟨⟨⟨⟨hp, hp2⟩, rf⟩, rg⟩, lf⟩, lg⟩ := hok
 refine (callsIn_wide (n := 3)).1 ?_
 refine callsIn_of_wp_marks Tryz.func41 rfl trivial ?_ rfl
 simp only [Tryz.ntmps41, List.size_toArray, List.length_cons, List.length_nil, Nat.reduceAdd, Nat.reduceSub, Array.replicate_succ, Array.replicate_zero, List.push_toArray, List.append_toArray, List.nil_append, List.cons_append]
 gi_wp2_with (refine ⟨trivial, ?_⟩; gi_at_call 72; refine (backward_in _ _ trivial rfl _ _ _ _).mono ?_; rintro e w' ⟨rfl, rfl⟩)
 have bP : Boxed ((((w.alloc (.cells #[.int .i64 a0] 49)).alloc (.cells #[.slice A2 l2.length c2] 24)).alloc (.cells #[.slice none 0 0] 24)).alloc (.cells #[.slice A1 l1.length c1] 24)) w.heap.size 49 (.int .i64 a0) := (((Boxed.new w _ _).alloc _).alloc _).alloc _
 have bX := ((Boxed.new (w.alloc (.cells #[.int .i64 a0] 49)) 24 (.slice A2 l2.length c2)).alloc (.cells #[.slice none 0 0] 24)).alloc (.cells #[.slice A1 l1.length c1] 24)
 have bO := (Boxed.new ((w.alloc (.cells #[.int .i64 a0] 49)).alloc (.cells #[.slice A2 l2.length c2] 24)) 24 (.slice none 0 0)).alloc (.cells #[.slice A1 l1.length c1] 24)
 have bS := Boxed.new (((w.alloc (.cells #[.int .i64 a0] 49)).alloc (.cells #[.slice A2 l2.length c2] 24)).alloc (.cells #[.slice none 0 0] 24)) 24 (.slice A1 l1.length c1)
 simp only [World.size_alloc] at bX bO bS
 have hB0 : Below w.heap.size w ((((w.alloc (.cells #[.int .i64 a0] 49)).alloc (.cells #[.slice A2 l2.length c2] 24)).alloc (.cells #[.slice none 0 0] 24)).alloc (.cells #[.slice A1 l1.length c1] 24)) := by
  repeat (first | exact Below.refl _ _ | apply below_alloc)
 have hsz : ((((w.alloc (.cells #[.int .i64 a0] 49)).alloc (.cells #[.slice A2 l2.length c2] 24)).alloc (.cells #[.slice none 0 0] 24)).alloc (.cells #[.slice A1 l1.length c1] 24)).heap.size = w.heap.size + 4 := by simp
 obtain ⟨W0, hW0⟩ : ∃ W0, ((((w.alloc (.cells #[.int .i64 a0] 49)).alloc (.cells #[.slice A2 l2.length c2] 24)).alloc (.cells #[.slice none 0 0] 24)).alloc (.cells #[.slice A1 l1.length c1] 24)) = W0 := ⟨_, rfl⟩
 rw [hW0] at bP bX bO bS hB0 hsz ⊢
 clear hW0
 have hC : ∀ W', Below w.heap.size W0 W' → ∀ j, j < l1.length → ∃ ad, A1 = some ad ∧ W'.cell? (ad.add j) = some (.int .i64 ((⟨l1.getD j 0, InR.get rf (by omega) j⟩ : Rg a0).1)) := fun W' hW' j hj => by
  obtain ⟨ad, e, h⟩ := Kd.at_int (Kd.C_below hr1 (hB0.trans hW')) (j : Int) (by omega) (by omega)
  exact ⟨ad, e, by simpa [rd] using h⟩
 refine wpIn_rangeFunc_ownG rfl (by omega) (gf := 97) (lb := #[.pointer (some ⟨w.heap.size + 1 + 1 + 1, 0, none⟩)]) rfl trivial (enters_of Tryz.func97 (by kernel_rfl) rfl)
  (backward_stops (α := Rg a0) Subtype.val (fun j => ⟨l1.getD j 0, InR.get rf (by omega) j⟩) Fence.wide 2 trivial rfl (by omega) (w.heap.size + 1 + 1 + 1) w.heap.size l1.length c1 A1 hlen W0 (by omega) (by omega) bS hC) KpB.trans (KpB.put (by omega) (by omega)) (Below.refl _ _) (fun _ => rfl)
  (fun pre W => ((Boxed W w.heap.size 49 (.int .i64 a0) ∧ Boxed W (w.heap.size + 1) 24 (.slice A2 l2.length c2) ∧ W0.heap.size ≤ W.heap.size) ∧ (∃ v, Boxed W (w.heap.size + 1 + 1) 24 v ∧ W.ownsRow W0.heap.size 2 1 v (compW a0 l2 pre).length (encs (Value.int .i64) (compW a0 l2 pre)) ∧ True)) ∧ Below w.heap.size w W)
  (fun _ _ _ => False)
  (OwnFrom.and (OwnFrom.and (Own.from (fun s A B row hs hg hr => ⟨boxed_own _ _ (fun _ => _) s A B row hs.1 hg hr, boxed_own _ _ (fun _ => _) s A B row hs.2.1 hg hr, Nat.le_trans hs.2.2 hg.size⟩) _) (Own.from (holdsRow_own _ _ _ _ _ (fun pre => (compW a0 l2 pre).length) (fun pre => encs (Value.int .i64) (compW a0 l2 pre)) (fun _ _ => True)) _)) (ownFrom_below (Nat.le_refl _) (by omega)))
  (fun _ _ _ _ _ hs _ _ => hs)
  ⟨⟨⟨bP, bX, Nat.le_refl _⟩, _, bO, by simp [compW, encs, World.ownsRow], trivial⟩, hB0⟩
  (fun x => { tmps := #[.int .i64 a0, .slice A1 l1.length c1, .slice A2 l2.length c2, .pointer (some ⟨w.heap.size, 0, none⟩), undef, .pointer (some ⟨w.heap.size + 1, 0, none⟩), .slice none 0 0, .pointer (some ⟨w.heap.size + 1 + 1, 0, none⟩), undef, .int .i64 x.2.1, .slice A1 l1.length c1, .func (.func 97) #[] #[.pointer (some ⟨w.heap.size + 1 + 1 + 1, 0, none⟩)], .int .i64 x.1, .int .i64 x.2.1, undef, undef, undef, undef, undef, undef, undef, undef, undef], defers := [] }) ?assign ?body ?done ?stop
 case assign =>
  intro l x W K hK
  gi_wp2
  exact hK
 case body =>
  rintro l pre x W ⟨⟨⟨hP, hX, hsW⟩, v, hO, hrow, _⟩, hB⟩ hlt
  have HR : Kd.R (Kd.int .i64) 2 W W0.heap.size (fun _ => True) v (compW a0 l2 pre) := Kd.R_of_own hrow (fun _ _ => trivial)
  obtain ⟨A, c, rfl⟩ := Kd.R_slice HR
  have cP := hP.cell
  have cX := hX.cell
  have cO := hO.cell
  have fO := hO.frozen
  have cP2 := (hP.alloc (.cells #[.int .i64 1] 2)).cell
  have cX2 := (hX.alloc (.cells #[.int .i64 1] 2)).cell
  have cO2 := (hO.alloc (.cells #[.int .i64 1] 2)).cell
  have hlW := compW_len a0 l2 lg pre
  have hrW := compW_inR (show 0 < a0 by omega) l2 pre
  have hlM := mulL_len a0 (compW a0 l2 pre) l2
  obtain ⟨k1, hk1⟩ := (impl_product hp hp2 (by omega) (by omega) hrW rg).rounds
  obtain ⟨k2, hk2⟩ := (impl_add (c := x.2.1) (f := mulL a0 (compW a0 l2 pre) l2) (g := [1]) hp hp2 (by omega) (by simp) (mulL_inR (show 0 < a0 by omega) _ _) (InR.one (by omega)) x.2.2.1 (by have := x.2.2.2; omega)).rounds
  have hP1 := fun W' (hW : Below W.heap.size W W') => impl_field_product.calls k1 a0 A c (compW a0 l2 pre) A2 c2 l2 _ W' (Kd.C_below (Kd.R_reads' HR).2.2 hW) (Kd.R_reads' HR).2.1 (Kd.C_below hr2 (hB.trans (hW.mono hB.size))) hc2 hk1
  have hP2 := fun W' A' c' B' b' (hc' : (mulL a0 (compW a0 l2 pre) l2).length ≤ c') (hC1 : Kd.C (Kd.int .i64) W' A' (mulL a0 (compW a0 l2 pre) l2).length (mulL a0 (compW a0 l2 pre) l2)) (hb' : ([1] : List Int).length ≤ b') (hC2 : Kd.C (Kd.int .i64) W' B' ([1] : List Int).length [1]) => impl_field_add.calls k2 a0 A' c' _ B' b' [1] x.2.1 _ W' hC1 hc' hC2 hb' hk2
  clear hk1 hk2
  have hmx : Tryz.prog.follows .mixedOrders = true := by kernel_rfl
  have HS : ∀ W', Below W.heap.size W W' → W'.cell? ⟨w.heap.size, 0, none⟩ = some (.int .i64 a0) ∧ W'.cell? ⟨w.heap.size + 1, 0, none⟩ = some (.slice A2 l2.length c2) ∧ W'.cell? ⟨w.heap.size + 1 + 1, 0, none⟩ = some (.slice A (compW a0 l2 pre).length c) := fun W' h =>
   ⟨Boxed.cell ((h.block _ hP.lt).trans hP), Boxed.cell ((h.block _ hX.lt).trans hX), Boxed.cell ((h.block _ hO.lt).trans hO)⟩
  have hbD : Below W.heap.size W W.drew := (Below.refl _ _).drew
  gi_wp2
  refine startIn_ (n := 9) (S := fun w' => w'.cell? ⟨w.heap.size, 0, none⟩ = some (.int .i64 a0) ∧ w'.cell? ⟨w.heap.size + 1, 0, none⟩ = some (.slice A2 l2.length c2) ∧ w'.cell? ⟨w.heap.size + 1 + 1, 0, none⟩ = some (.slice A (compW a0 l2 pre).length c)) (ds := [8]) #[false, false, false, false, false, false, false, false, false] hmx (by kernel_rfl) (fun ⟨_, _, h⟩ => h) rfl rfl (HS _ hbD) (fun hHeld => ?_)
  refine take_ (i := 0) (N := some 14) (v := ?_) (a' := ?_) #[true, false, false, false, false, false, false, false, false] rfl rfl (by kernel_rfl) (fun _ _ _ h => h) (Or.inl ⟨by rfl, ?_⟩) hHeld ?_ ?_
  rotate_left
  ·
   rintro w' ⟨s0, s1, s2⟩
   go_simp
   with_reducible rfl
  rotate_left
  ·
   simp only [Act.put, List.setIfInBounds_toArray, List.set_cons_zero, List.set_cons_succ, i64_w, i32_w]
   rfl
  refine take_ (i := 1) (N := some 15) (v := ?_) (a' := ?_) #[true, true, false, false, false, false, false, false, false] rfl rfl (by kernel_rfl) (fun _ _ _ h => h) (Or.inl ⟨by rfl, ?_⟩) hHeld ?_ ?_
  rotate_left
  ·
   rintro w' ⟨s0, s1, s2⟩
   go_simp
   with_reducible rfl
  rotate_left
  ·
   simp only [Act.put, List.setIfInBounds_toArray, List.set_cons_zero, List.set_cons_succ, i64_w, i32_w]
   rfl
  refine take_ (i := 2) (N := some 16) (v := ?_) (a' := ?_) #[true, true, true, false, false, false, false, false, false] rfl rfl (by kernel_rfl) (fun _ _ _ h => h) (Or.inl ⟨by rfl, ?_⟩) hHeld ?_ ?_
  rotate_left
  ·
   rintro w' ⟨s0, s1, s2⟩
   go_simp
   with_reducible rfl
  rotate_left
  ·
   simp only [Act.put, List.setIfInBounds_toArray, List.set_cons_zero, List.set_cons_succ, i64_w, i32_w]
   rfl
  refine take_ (i := 3) (N := some 17) (v := ?_) (a' := ?_) #[true, true, true, true, false, false, false, false, false] rfl rfl (by kernel_rfl) (fun _ _ _ h => h) (Or.inl ⟨by rfl, ?_⟩) hHeld ?_ ?_
  rotate_left
  ·
   rintro w' ⟨s0, s1, s2⟩
   go_simp
   with_reducible rfl
  rotate_left
  ·
   simp only [Act.put, List.setIfInBounds_toArray, List.set_cons_zero, List.set_cons_succ, i64_w, i32_w]
   rfl
  refine pure_ (i := 6) (N := some 20) (v := ?_) (a' := ?_) #[true, true, true, true, false, false, true, false, false] rfl rfl (by kernel_rfl) (fun _ _ _ h => h) (Or.inl ⟨by rfl, ?_⟩) ?_ ?_
  rotate_left
  ·
   intro w'
   go_simp
   with_reducible rfl
  rotate_left
  ·
   simp only [Act.put, List.setIfInBounds_toArray, List.set_cons_zero, List.set_cons_succ, i64_w, i32_w]
   rfl
  refine two_ (i := 4) (j := 5) (Ni := some 18) (Nj := some 19) #[true, true, true, true, true, false, true, false, false] #[true, true, true, true, false, true, true, false, false] rfl rfl rfl rfl (by kernel_rfl) (by decide) (by decide) (fun K hK => ?_) (fun K hK => ?_)
  ·
   skip
   refine goes_ Tryz.func65 (by kernel_rfl) rfl #[.int .i64 a0, .slice A (compW a0 l2 pre).length c, .slice A2 l2.length c2] (by rfl) rfl rfl (by (try simp only [List.map_toArray, List.map_cons, List.map_nil]); first | done | rfl | (simp only [List.length_drop, List.length_take]; rfl)) ?_
   refine (hP1 _ hbD).mono ?_
   rintro e w3 ⟨v1, rfl, hR1, hb3⟩
   obtain ⟨A', cc, rfl⟩ := Kd.R_slice hR1
   have hS3 := HS _ (below_step hbD hb3)
   refine ⟨_, rfl, ?_⟩
   refine hK.out _ _ hS3 (fun hHeld => ?_)
   clear hK K
   refine nm_ (some 18) ?_
   refine one_ (i := 5) (N := some 19) #[true, true, true, true, true, true, true, false, false] rfl rfl (by kernel_rfl) (by decide) (fun K hK => ?_)
   refine Kd.R_lit_step (Kd.int .i64) 0 2 ?hg (N := 19) ?hd (xs := ([1] : List Int)) (inner := [.int .i64 1]) (ok := fun _ => True) (okp := fun _ => True) ?hr ?hp (fun _ hk => hk) trivial (Below.refl 0 _) (Nat.zero_le _) (by simp) ?_
   case hd => rfl
   case hg => rfl
   case hr => first | (go_simp; done) | (go_simp; rfl)
   case hp => exact (Reps.one (show Kd.M (Kd.int .i64) _ _ _ 1 [.int .i64 1] from rfl) (Reps.none _ _))
   intro v2 w4 hR2 hb0_ hg4 hnew4
   clear hb0_
   have hb4 := grown_none hg4
   obtain ⟨B', bb, rfl⟩ := Kd.R_slice hR2
   have hS4 := HS _ (below_step (below_step hbD hb3) hb4)
   refine hK.out _ _ hS4 (fun hHeld => ?_)
   clear hK K
   refine nm_ (some 19) ?_
   have hbX := below_step (below_step hbD hb3) hb4
   have hC1 := Kd.C_below (Kd.R_reads' hR1).2.2 hb4
   have hl1 := (Kd.R_reads' hR1).2.1
   have hC2 := (Kd.R_reads' hR2).2.2
   have hl2 := (Kd.R_reads' hR2).2.1
   refine one_ (i := 7) (N := some 21) #[true, true, true, true, true, true, true, true, false] rfl rfl (by kernel_rfl) (by decide) (fun K hK => ?_)
   refine goes_ Tryz.func64 (by kernel_rfl) rfl #[.int .i64 a0, .slice A' (mulL a0 (compW a0 l2 pre) l2).length cc, .slice B' ([1] : List Int).length bb, .int .i64 x.2.1] (by rfl) rfl rfl (by (try simp only [List.map_toArray, List.map_cons, List.map_nil]); first | done | rfl | (simp only [List.length_drop, List.length_take]; rfl)) ?_
   refine (hP2 _ _ _ _ _ hl1 hC1 hl2 hC2).mono ?_
   rintro e w5 ⟨v5, rfl, hR5, hb5⟩
   obtain ⟨A5, c5, rfl⟩ := Kd.R_slice hR5
   have hbY := below_step hbX hb5
   have hS5 := HS _ hbY
   refine ⟨_, rfl, ?_⟩
   refine hK.out _ _ hS5 (fun hHeld => ?_)
   clear hK K
   refine nm_ (some 21) ?_
   have hO5 : Boxed w5 (w.heap.size + 1 + 1) 24 (.slice A (compW a0 l2 pre).length c) := (hbY.block _ hO.lt).trans hO
   have cO5 := hO5.cell
   have fO5 := hO5.frozen
   refine last_ (i := 8) (N := none) #[true, true, true, true, true, true, true, true, true] rfl rfl (by kernel_rfl) (by decide) (fun K hK => ?_)
   refine skip_ (w1 := w5.setCell ⟨w.heap.size + 1 + 1, 0, none⟩ (.slice A5 (addL a0 (mulL a0 (compW a0 l2 pre) l2) [1] x.2.1).length c5)) (by rfl) rfl ?_ ?_
   ·
    first | (go_simp; done) | (go_simp; rfl)
   refine hK.out _ _ ?_
   clear hK K
   refine done_ (by kernel_rfl) ?_
   have hown := Kd.own_of_R (Kd.R_lower hR5 (show W0.heap.size ≤ _ from Nat.le_trans hsW hbX.size))
   refine ⟨((keepsOthers_below hbY).trans (KeepsOthers.setCell _ _ _)).from _, ⟨(hbY.mono hB.size).setCell (p := ⟨w.heap.size + 1 + 1, 0, none⟩) (Nat.le_add_right _ 2) _, (Below.heap_setCell _ _ _ _ (by simp)).trans (hbY.block _ (by omega))⟩, ⟨⟨Boxed.other ((hbY.block _ hP.lt).trans hP) (by omega) _, Boxed.other ((hbY.block _ hX.lt).trans hX) (by omega) _, Nat.le_trans (Nat.le_trans hsW hbY.size) (KeepsOthers.setCell _ _ _).size⟩, _, Boxed.set _ hO5, ?_, trivial⟩, (hB.trans (hbY.mono hB.size)).setCell (p := ⟨w.heap.size + 1 + 1, 0, none⟩) (Nat.le_add_right _ 2) _⟩
   rw [compW_snoc]
   exact hown.kept (grownBy_setCell' w5 _ _) (.inr (hO5.not_row (by decide) hown).symm)
  ·
   skip
   refine Kd.R_lit_step (Kd.int .i64) 0 2 ?hg (N := 19) ?hd (xs := ([1] : List Int)) (inner := [.int .i64 1]) (ok := fun _ => True) (okp := fun _ => True) ?hr ?hp (fun _ hk => hk) trivial (Below.refl 0 _) (Nat.zero_le _) (by simp) ?_
   case hd => rfl
   case hg => rfl
   case hr => first | (go_simp; done) | (go_simp; rfl)
   case hp => exact (Reps.one (show Kd.M (Kd.int .i64) _ _ _ 1 [.int .i64 1] from rfl) (Reps.none _ _))
   intro v2 w4 hR2 hb0_ hg4 hnew4
   clear hb0_
   have hb4 := grown_none hg4
   obtain ⟨B', bb, rfl⟩ := Kd.R_slice hR2
   have hS4 := HS _ (below_step hbD hb4)
   refine hK.out _ _ hS4 (fun hHeld => ?_)
   clear hK K
   refine nm_ (some 19) ?_
   refine one_ (i := 4) (N := some 18) #[true, true, true, true, true, true, true, false, false] rfl rfl (by kernel_rfl) (by decide) (fun K hK => ?_)
   refine goes_ Tryz.func65 (by kernel_rfl) rfl #[.int .i64 a0, .slice A (compW a0 l2 pre).length c, .slice A2 l2.length c2] (by rfl) rfl rfl (by (try simp only [List.map_toArray, List.map_cons, List.map_nil]); first | done | rfl | (simp only [List.length_drop, List.length_take]; rfl)) ?_
   refine (hP1 _ (below_step hbD hb4)).mono ?_
   rintro e w3 ⟨v1, rfl, hR1, hb3⟩
   obtain ⟨A', cc, rfl⟩ := Kd.R_slice hR1
   have hS3 := HS _ (below_step (below_step hbD hb4) hb3)
   refine ⟨_, rfl, ?_⟩
   refine hK.out _ _ hS3 (fun hHeld => ?_)
   clear hK K
   refine nm_ (some 18) ?_
   have hbX := below_step (below_step hbD hb4) hb3
   have hC1 := (Kd.R_reads' hR1).2.2
   have hl1 := (Kd.R_reads' hR1).2.1
   have hC2 := Kd.C_below (Kd.R_reads' hR2).2.2 hb3
   have hl2 := (Kd.R_reads' hR2).2.1
   refine one_ (i := 7) (N := some 21) #[true, true, true, true, true, true, true, true, false] rfl rfl (by kernel_rfl) (by decide) (fun K hK => ?_)
   refine goes_ Tryz.func64 (by kernel_rfl) rfl #[.int .i64 a0, .slice A' (mulL a0 (compW a0 l2 pre) l2).length cc, .slice B' ([1] : List Int).length bb, .int .i64 x.2.1] (by rfl) rfl rfl (by (try simp only [List.map_toArray, List.map_cons, List.map_nil]); first | done | rfl | (simp only [List.length_drop, List.length_take]; rfl)) ?_
   refine (hP2 _ _ _ _ _ hl1 hC1 hl2 hC2).mono ?_
   rintro e w5 ⟨v5, rfl, hR5, hb5⟩
   obtain ⟨A5, c5, rfl⟩ := Kd.R_slice hR5
   have hbY := below_step hbX hb5
   have hS5 := HS _ hbY
   refine ⟨_, rfl, ?_⟩
   refine hK.out _ _ hS5 (fun hHeld => ?_)
   clear hK K
   refine nm_ (some 21) ?_
   have hO5 : Boxed w5 (w.heap.size + 1 + 1) 24 (.slice A (compW a0 l2 pre).length c) := (hbY.block _ hO.lt).trans hO
   have cO5 := hO5.cell
   have fO5 := hO5.frozen
   refine last_ (i := 8) (N := none) #[true, true, true, true, true, true, true, true, true] rfl rfl (by kernel_rfl) (by decide) (fun K hK => ?_)
   refine skip_ (w1 := w5.setCell ⟨w.heap.size + 1 + 1, 0, none⟩ (.slice A5 (addL a0 (mulL a0 (compW a0 l2 pre) l2) [1] x.2.1).length c5)) (by rfl) rfl ?_ ?_
   ·
    first | (go_simp; done) | (go_simp; rfl)
   refine hK.out _ _ ?_
   clear hK K
   refine done_ (by kernel_rfl) ?_
   have hown := Kd.own_of_R (Kd.R_lower hR5 (show W0.heap.size ≤ _ from Nat.le_trans hsW hbX.size))
   refine ⟨((keepsOthers_below hbY).trans (KeepsOthers.setCell _ _ _)).from _, ⟨(hbY.mono hB.size).setCell (p := ⟨w.heap.size + 1 + 1, 0, none⟩) (Nat.le_add_right _ 2) _, (Below.heap_setCell _ _ _ _ (by simp)).trans (hbY.block _ (by omega))⟩, ⟨⟨Boxed.other ((hbY.block _ hP.lt).trans hP) (by omega) _, Boxed.other ((hbY.block _ hX.lt).trans hX) (by omega) _, Nat.le_trans (Nat.le_trans hsW hbY.size) (KeepsOthers.setCell _ _ _).size⟩, _, Boxed.set _ hO5, ?_, trivial⟩, (hB.trans (hbY.mono hB.size)).setCell (p := ⟨w.heap.size + 1 + 1, 0, none⟩) (Nat.le_add_right _ 2) _⟩
   rw [compW_snoc]
   exact hown.kept (grownBy_setCell' w5 _ _) (.inr (hO5.not_row (by decide) hown).symm)
 case done =>
  rintro D ys W hD rfl ⟨⟨⟨hP, hX, hsW⟩, v, hO, hrow, _⟩, hB⟩ hK
  rw [compW_all (show 0 < a0 by omega) l1 l2 rf] at hrow
  have cO := hO.cell
  gi_wp2
  refine ⟨by simp, .inl ⟨_, _, rfl, run_takeDeferred hK, ?_⟩⟩
  exact ⟨_, results_tmp rfl _ _ _, _, rfl, Kd.R_lower (Kd.R_of_own (ownsRow_putObj hrow _ hK rfl) (fun _ _ => trivial)) (by omega), hB.trans (belowK_b (w := w) (Nat.le_refl _) W D _ _ (by omega) hK rfl rfl)⟩
 case stop =>
  rintro D c pre W _ _ h _
  exact h.elim
end Go.Proofs.YtmadpicanmjhhaaGreatDoor.H
namespace Go.Proofs.YtmadpicanmjhhaaGreatDoor.H
open Go.RowKit Go.Proofs.YtmadpicanmjhhaaGreatDoorW.PrintWords Go.Proofs.YtmadpicanmjhhaaGreatDoorW.PrintLast Go.Proofs.YtmadpicanmjhhaaGreatDoorW.PrintMore
attribute [local go_sem] max2_int min2_int max_two min_two max_three min_three max_four min_four   -- for this text's walks alone
set_option linter.unusedVariables false
set_option linter.unusedSimpArgs false
theorem impl_ShiftPoly_c1 (B0 B1 : Nat) (x0 x1 : Int) (w : World) (h0 : w.cell? ⟨B0, 0, none⟩ = some (.int .i64 x0)) (h1 : w.cell? ⟨B1, 0, none⟩ = some (.int .i64 x1)) :
  Gives0 40 #[.pointer (some ⟨B0, 0, none⟩), .pointer (some ⟨B1, 0, none⟩)] (hasB x0 x1) w := by
 intro W hW
 have h0' := (hW.cell (p := ⟨B0, 0, none⟩) (World.block_lt_of_cell? w _ h0)).trans h0
 have h1' := (hW.cell (p := ⟨B1, 0, none⟩) (World.block_lt_of_cell? w _ h1)).trans h1
 have hP := has_hasB x0 x1 W
 clear hW h0 h1
 show Calls Tryz.prog 40 #[.pointer (some ⟨B0, 0, none⟩), .pointer (some ⟨B1, 0, none⟩)] W _
 go_enter Tryz.func40, Tryz.ntmps40
 go_wp2_with (go_at_call 36; refine hP.mono ?_; rintro e w' ⟨rfl, ⟨nd, rfl⟩⟩)
 go_ret
 exact ⟨rfl, pw_below_drewN (Below.refl _ _) _⟩
def impl_ShiftPoly.f (k : Nat) (a0 : Int) (l1 : List Int) (a2 : Int) : Option (List Int × Int) := (impl_polyCode_1.f k a0 (hasB a0 a2) l1).bind fun t543 => (if t543 = 0 then ((impl_field_compose.f a0 l1 (([a2, 1] : List Int))).bind fun t547 => (some (t547, 0))) else (some (([] : List Int), t543)))
set_option maxHeartbeats 8000000 in
set_option maxRecDepth 100000 in
theorem impl_ShiftPoly.calls (k : Nat) (a0 : Int) (A1 : Option Addr) (c1 : Nat) (l1 : List Int) (a2 : Int) (r1 : List Int) (r2 : Int) (w : World) (hr1 : Kd.C (Kd.int .i64) w A1 l1.length l1) (hc1 : l1.length ≤ c1) (h : impl_ShiftPoly.f k a0 l1 a2 = some (r1, r2)) :
  Calls Tryz.prog 11 #[.int .i64 a0, .slice A1 l1.length c1, .int .i64 a2] w fun e w' => ∃ v0_ : Value, e = .returned (.tuple #[v0_, .int .i64 r2]) ∧ Kd.R (Kd.int .i64) 2 w' w.heap.size (fun _ => True) v0_ r1 ∧ Below w.heap.size w w' := by
 have HR1 := as0 hr1
 have HC1 := as0 hc1
 clear hr1 hc1
 have HB := as0 (Below.refl w.heap.size w)
 have H : ((impl_polyCode_1.f k a0 (hasB a0 a2) l1).bind fun t543 => (if t543 = 0 then ((impl_field_compose.f a0 l1 (([a2, 1] : List Int))).bind fun t547 => (some (t547, 0))) else (some (([] : List Int), t543)))) = some (r1, r2) := h
 clear h
 replace H := Option.bind_eq_some_iff.mp H
 obtain ⟨t543, A40, H⟩ := H
 have A4 := as0 A40
 clear A40
 by_cases c5 : t543 = 0
 ·
  rw [if_pos c5] at H
  have c5b0 : (t543 == 0) = true := beq_iff_eq.mpr c5
  have c5b1 : (t543 != 0) = false := bne_eq_false_iff_eq.mpr c5
  clear c5
  obtain ⟨y544, hy544⟩ : ∃ y_ : List Int, y_ = (([a2, 1] : List Int)) := ⟨_, rfl⟩
  replace H : ((impl_field_compose.f a0 l1 y544).bind fun t547 => (some (t547, 0))) = some (r1, r2) := by first | (rw [hy544]; with_reducible exact H) | (have H2_ := (Option.bind_some _ _).symm.trans H; rw [hy544]; with_reducible exact H2_) | (have H2_ := (Option.bind_some _ _).symm.trans H; with_reducible exact H2_) | with_reducible exact H | (rw [hy544]; exact H) | exact H
  have Ny544 := as0 hy544
  clear hy544
  replace H := Option.bind_eq_some_iff.mp H
  obtain ⟨t547, A60, H⟩ := H
  have A6 := as0 A60
  clear A60
  simp only [Option.some.injEq, Prod.mk.injEq] at H
  obtain ⟨rfl, rfl⟩ := H
  go_enter Tryz.func11, Tryz.ntmps11
  go_wp2_with (first | ((with_reducible refine gate_dst (N := 3) rfl ?_); refine box_event ?hg (N := 3) ?hd (cs := #[.int .i64 a0]) (t := 2) ?hr ?_; (case hd => rfl); (case hg => rfl); (case hr => first | (go_simp; done) | (go_simp; rfl)); intro gb541 hg w7 hbox hb; have n0_ := as0 (below_step (bs HB) hb); have n1_ := as0 (hbox); have n2_ := as0 ((by rw [hg]; exact (below_size (bs HB)) : w.heap.size ≤ gb541)); have n3_ := as0 ((by rw [hg]; exact (below_size (bs HB)) : w.heap.size ≤ gb541)); clear HB; have HB := n0_; have BK541 := n1_; have GW541 := n2_; have GE541 := n3_; clear n0_ n1_ n2_ n3_; clear hb hbox hg) | ((with_reducible refine gate_dst (N := 5) rfl ?_); refine box_event ?hg (N := 5) ?hd (cs := #[.int .i64 a2]) (t := 2) ?hr ?_; (case hd => rfl); (case hg => rfl); (case hr => first | (go_simp; done) | (go_simp; rfl)); intro gb542 hg w8 hbox hb; have n0_ := as0 (blk_below (g := gb541) (o := .cells #[.int .i64 a0] 2 (0, 0)) (by (with_reducible repeat (first | refine blk_drewN ?_ _ | refine blk_drew ?_ | refine blk_alloc ?_ _)); exact BK541.out) hb); have n1_ := as0 (below_step (by repeat (first | (with_reducible first | exact HB.out | apply below_alloc | apply pw_below_drewN | apply below_drew1 | refine below_set ?_ GE541.out) | exact HB.out)) hb); have n2_ := as0 (hbox); have n3_ := as0 ((by rw [hg]; exact (below_size (by repeat (first | (with_reducible first | exact HB.out | apply below_alloc | apply pw_below_drewN | apply below_drew1 | refine below_set ?_ GE541.out) | exact HB.out))) : w.heap.size ≤ gb542)); have n4_ := as0 ((by rw [hg]; exact (below_size (by repeat (first | (with_reducible first | exact HB.out | apply below_alloc | apply pw_below_drewN | apply below_drew1 | refine below_set ?_ GE541.out) | exact HB.out))) : w.heap.size ≤ gb542)); have n5_ := as0 ((by rw [hg]; exact Nat.ne_of_lt (blk_lt (g := gb541) (o := .cells #[.int .i64 a0] 2 (0, 0)) (by (with_reducible repeat (first | refine blk_drewN ?_ _ | refine blk_drew ?_ | refine blk_alloc ?_ _)); exact BK541.out)) : gb541 ≠ gb542)); have n6_ := as0 ((by rw [hg]; exact Nat.ne_of_gt (blk_lt (g := gb541) (o := .cells #[.int .i64 a0] 2 (0, 0)) (by (with_reducible repeat (first | refine blk_drewN ?_ _ | refine blk_drew ?_ | refine blk_alloc ?_ _)); exact BK541.out)) : gb542 ≠ gb541)); clear BK541; clear HB; have BK541 := n0_; have HB := n1_; have BK542 := n2_; have GW542 := n3_; have GE542 := n4_; have NB541_542 := n5_; have NB542_541 := n6_; clear n0_ n1_ n2_ n3_ n4_ n5_ n6_; clear hb hbox hg; have hnb9 := NB541_542.out; have hnc9 := NB542_541.out; have hcz10_0 : w8.cell? ⟨gb541, 0, none⟩ = some (.int .i64 a0) := (blk_cell BK541.out 0).trans rfl; have hfz10_0 := blk_frozen BK541.out 0) | (go_at_call 34; (with_reducible refine (impl_polyCode_1.calls k a0 (hasB a0 a2) A1 c1 l1 t543 _ ?side1 ?side2 A4.out ?sideE ?sideG ?sideP).mono ?_); (case side1 => exact cs ((Kd.C_below HR1.out HB.out))); (case side2 => exact HC1.out); (case sideE => (first | exact enters_of Tryz.func40 (by kernel_rfl) rfl | exact enters_of Tryz.func47 (by kernel_rfl) rfl)); (case sideG => (first | exact impl_ShiftPoly_c1 _ _ _ _ _ (by (first | (simp; done) | exact blk_cell1 (by (with_reducible repeat (first | refine blk_drewN ?_ _ | refine blk_drew ?_ | refine blk_alloc ?_ _)); (first | exact BK541.out | exact BK542.out)) | (simp [*]; done))) (by (first | (simp; done) | exact blk_cell1 (by (with_reducible repeat (first | refine blk_drewN ?_ _ | refine blk_drew ?_ | refine blk_alloc ?_ _)); (first | exact BK541.out | exact BK542.out)) | (simp [*]; done))) | exact always_gives _)); (case sideP => (first | (simp; done) | exact blk_cell1 (by (with_reducible repeat (first | refine blk_drewN ?_ _ | refine blk_drew ?_ | refine blk_alloc ?_ _)); (first | exact BK541.out | exact BK542.out)) | (simp [*]; done))); rintro e w11 ⟨rfl, hb⟩; have n0_ := as0 (blk_below (g := gb541) (o := .cells #[.int .i64 a0] 2 (0, 0)) (by (with_reducible repeat (first | refine blk_drewN ?_ _ | refine blk_drew ?_ | refine blk_alloc ?_ _)); exact BK541.out) hb); have n1_ := as0 (blk_below (g := gb542) (o := .cells #[.int .i64 a2] 2 (0, 0)) (by (with_reducible repeat (first | refine blk_drewN ?_ _ | refine blk_drew ?_ | refine blk_alloc ?_ _)); exact BK542.out) hb); have n2_ := as0 (below_step (by repeat (first | (with_reducible first | exact HB.out | apply below_alloc | apply pw_below_drewN | apply below_drew1 | refine below_set ?_ GE541.out | refine below_set ?_ GE542.out) | exact HB.out)) hb); clear BK541; clear BK542; clear HB; have BK541 := n0_; have BK542 := n1_; have HB := n2_; clear n0_ n1_ n2_; (try clear hb); (try clear hb2); (try clear hk); (try clear hi); have hcz12_0 : w11.cell? ⟨gb541, 0, none⟩ = some (.int .i64 a0) := (blk_cell BK541.out 0).trans rfl; have hfz12_0 := blk_frozen BK541.out 0; have hcz13_0 : w11.cell? ⟨gb542, 0, none⟩ = some (.int .i64 a2) := (blk_cell BK542.out 0).trans rfl; have hfz13_0 := blk_frozen BK542.out 0) | ((with_reducible refine gate_dst (N := 20) rfl ?_); refine Kd.R_lit (Kd.int .i64) _ 2 ?hg (N := 20) ?hd (xs := ([a2, 1] : List Int)) (inner := [.int .i64 a2, .int .i64 1]) (ok := fun _ => True) (okp := fun _ => True) ?hr ?hp (fun _ hk => hk) trivial (Below.refl _ _) (Nat.le_refl _) (by simp) ?_; (case hd => rfl); (case hg => rfl); (case hr => first | (go_simp; done) | (go_simp; rfl)); (case hp => exact (Reps.one (show Kd.M (Kd.int .i64) _ _ _ a2 [.int .i64 a2] from rfl) (Reps.one (show Kd.M (Kd.int .i64) _ _ _ 1 [.int .i64 1] from rfl) (Reps.none _ _)))); intro v545 w14 ho15 hb hg_ hnew_; clear hg_ hnew_; (first | rw [← Ny544.out] at ho15 | (simp only [Int.reduceToNat] at ho15; rw [← Ny544.out] at ho15)); have n0_ := as0 (Kd.R_lower (Kd.R_newB (Kd.R_newB ho15 (g := gb541) (o := .cells #[.int .i64 a0] 2 (0, 0)) (by (with_reducible repeat (first | refine blk_drewN ?_ _ | refine blk_drew ?_ | refine blk_alloc ?_ _)); exact BK541.out)) (g := gb542) (o := .cells #[.int .i64 a2] 2 (0, 0)) (by (with_reducible repeat (first | refine blk_drewN ?_ _ | refine blk_drew ?_ | refine blk_alloc ?_ _)); exact BK542.out)) (below_size (by repeat (first | (with_reducible first | exact HB.out | apply below_alloc | apply pw_below_drewN | apply below_drew1 | refine below_set ?_ GE541.out | refine below_set ?_ GE542.out) | exact HB.out)))); have n1_ := as0 (blk_below (g := gb541) (o := .cells #[.int .i64 a0] 2 (0, 0)) (by (with_reducible repeat (first | refine blk_drewN ?_ _ | refine blk_drew ?_ | refine blk_alloc ?_ _)); exact BK541.out) hb); have n2_ := as0 (blk_below (g := gb542) (o := .cells #[.int .i64 a2] 2 (0, 0)) (by (with_reducible repeat (first | refine blk_drewN ?_ _ | refine blk_drew ?_ | refine blk_alloc ?_ _)); exact BK542.out) hb); have n3_ := as0 (below_step (by repeat (first | (with_reducible first | exact HB.out | apply below_alloc | apply pw_below_drewN | apply below_drew1 | refine below_set ?_ GE541.out | refine below_set ?_ GE542.out) | exact HB.out)) hb); clear BK541; clear BK542; clear HB; have HO546 := n0_; have BK541 := n1_; have BK542 := n2_; have HB := n3_; clear n0_ n1_ n2_ n3_; clear hb ho15; obtain ⟨Ao16, co16, eo16⟩ := Kd.R_slice HO546.out; subst eo16) | ((with_reducible refine gate_callee (f := 41) rfl ?_); refine goesM_ (some 21) rfl rfl Tryz.func41 #[.int .i64 a0, .slice A1 l1.length c1, .slice Ao16 y544.length co16] rfl ?_; (with_reducible refine (impl_field_compose.calls a0 _ _ l1 _ _ y544 t547 _ ?side1 ?side2 ?side3 ?side4 A6.out).mono ?_); (case side1 => exact cs ((Kd.C_below HR1.out HB.out))); (case side2 => exact HC1.out); (case side3 => exact cs ((Kd.R_reads' HO546.out).2.2)); (case side4 => exact (Kd.R_reads' HO546.out).2.1); rintro e w17 ⟨v548, rfl, ho0, hb⟩; refine ⟨_, rfl, ?_⟩; have n0_ := as0 (Kd.R_elder' (rs HO546) (Kd.R_base ho0) hb); have n1_ := as0 (Kd.R_lower (Kd.R_newB (Kd.R_newB (Kd.R_new' ho0 (Kd.R_lt (rs HO546))) (g := gb541) (o := .cells #[.int .i64 a0] 2 (0, 0)) (by (with_reducible repeat (first | refine blk_drewN ?_ _ | refine blk_drew ?_ | refine blk_alloc ?_ _)); exact BK541.out)) (g := gb542) (o := .cells #[.int .i64 a2] 2 (0, 0)) (by (with_reducible repeat (first | refine blk_drewN ?_ _ | refine blk_drew ?_ | refine blk_alloc ?_ _)); exact BK542.out)) (below_size (by repeat (first | (with_reducible first | exact HB.out | apply below_alloc | apply pw_below_drewN | apply below_drew1 | refine below_set ?_ GE541.out | refine below_set ?_ GE542.out) | exact HB.out)))); have n2_ := as0 (blk_below (g := gb541) (o := .cells #[.int .i64 a0] 2 (0, 0)) (by (with_reducible repeat (first | refine blk_drewN ?_ _ | refine blk_drew ?_ | refine blk_alloc ?_ _)); exact BK541.out) hb); have n3_ := as0 (blk_below (g := gb542) (o := .cells #[.int .i64 a2] 2 (0, 0)) (by (with_reducible repeat (first | refine blk_drewN ?_ _ | refine blk_drew ?_ | refine blk_alloc ?_ _)); exact BK542.out) hb); have n4_ := as0 (below_step (by repeat (first | (with_reducible first | exact HB.out | apply below_alloc | apply pw_below_drewN | apply below_drew1 | refine below_set ?_ GE541.out | refine below_set ?_ GE542.out) | exact HB.out)) hb); clear HO546; clear BK541; clear BK542; clear HB; have HO546 := n0_; have HO549 := n1_; have BK541 := n2_; have BK542 := n3_; have HB := n4_; clear n0_ n1_ n2_ n3_ n4_; (try clear hb); (try clear hb2); (try clear hk); (try clear hi); (try clear ho0)))
  go_ret2
  exact ⟨_, er_, by (with_reducible repeat (first | apply Kd.R_alloc | apply Kd.R_drewN | apply Kd.R_drew)); exact Kd.R_mono HO549.out (fun _ hk => trivial), by repeat (first | (with_reducible first | exact HB.out | apply below_alloc | apply pw_below_drewN | apply below_drew1 | refine below_set ?_ GE541.out | refine below_set ?_ GE542.out) | exact HB.out)⟩
 ·
  rw [if_neg c5] at H
  have c5b0 : (t543 == 0) = false := beq_eq_false_iff_ne.mpr c5
  have c5b1 : (t543 != 0) = true := bne_iff_ne.mpr c5
  simp only [Option.some.injEq, Prod.mk.injEq] at H
  obtain ⟨rfl, rfl⟩ := H
  go_enter Tryz.func11, Tryz.ntmps11
  go_wp2_with (first | ((with_reducible refine gate_dst (N := 3) rfl ?_); refine box_event ?hg (N := 3) ?hd (cs := #[.int .i64 a0]) (t := 2) ?hr ?_; (case hd => rfl); (case hg => rfl); (case hr => first | (go_simp; done) | (go_simp; rfl)); intro gb541 hg w18 hbox hb; have n0_ := as0 (below_step (bs HB) hb); have n1_ := as0 (hbox); have n2_ := as0 ((by rw [hg]; exact (below_size (bs HB)) : w.heap.size ≤ gb541)); have n3_ := as0 ((by rw [hg]; exact (below_size (bs HB)) : w.heap.size ≤ gb541)); clear HB; have HB := n0_; have BK541 := n1_; have GW541 := n2_; have GE541 := n3_; clear n0_ n1_ n2_ n3_; clear hb hbox hg) | ((with_reducible refine gate_dst (N := 5) rfl ?_); refine box_event ?hg (N := 5) ?hd (cs := #[.int .i64 a2]) (t := 2) ?hr ?_; (case hd => rfl); (case hg => rfl); (case hr => first | (go_simp; done) | (go_simp; rfl)); intro gb542 hg w19 hbox hb; have n0_ := as0 (blk_below (g := gb541) (o := .cells #[.int .i64 a0] 2 (0, 0)) (by (with_reducible repeat (first | refine blk_drewN ?_ _ | refine blk_drew ?_ | refine blk_alloc ?_ _)); exact BK541.out) hb); have n1_ := as0 (below_step (by repeat (first | (with_reducible first | exact HB.out | apply below_alloc | apply pw_below_drewN | apply below_drew1 | refine below_set ?_ GE541.out) | exact HB.out)) hb); have n2_ := as0 (hbox); have n3_ := as0 ((by rw [hg]; exact (below_size (by repeat (first | (with_reducible first | exact HB.out | apply below_alloc | apply pw_below_drewN | apply below_drew1 | refine below_set ?_ GE541.out) | exact HB.out))) : w.heap.size ≤ gb542)); have n4_ := as0 ((by rw [hg]; exact (below_size (by repeat (first | (with_reducible first | exact HB.out | apply below_alloc | apply pw_below_drewN | apply below_drew1 | refine below_set ?_ GE541.out) | exact HB.out))) : w.heap.size ≤ gb542)); have n5_ := as0 ((by rw [hg]; exact Nat.ne_of_lt (blk_lt (g := gb541) (o := .cells #[.int .i64 a0] 2 (0, 0)) (by (with_reducible repeat (first | refine blk_drewN ?_ _ | refine blk_drew ?_ | refine blk_alloc ?_ _)); exact BK541.out)) : gb541 ≠ gb542)); have n6_ := as0 ((by rw [hg]; exact Nat.ne_of_gt (blk_lt (g := gb541) (o := .cells #[.int .i64 a0] 2 (0, 0)) (by (with_reducible repeat (first | refine blk_drewN ?_ _ | refine blk_drew ?_ | refine blk_alloc ?_ _)); exact BK541.out)) : gb542 ≠ gb541)); clear BK541; clear HB; have BK541 := n0_; have HB := n1_; have BK542 := n2_; have GW542 := n3_; have GE542 := n4_; have NB541_542 := n5_; have NB542_541 := n6_; clear n0_ n1_ n2_ n3_ n4_ n5_ n6_; clear hb hbox hg; have hnb20 := NB541_542.out; have hnc20 := NB542_541.out; have hcz21_0 : w19.cell? ⟨gb541, 0, none⟩ = some (.int .i64 a0) := (blk_cell BK541.out 0).trans rfl; have hfz21_0 := blk_frozen BK541.out 0) | (go_at_call 34; (with_reducible refine (impl_polyCode_1.calls k a0 (hasB a0 a2) A1 c1 l1 t543 _ ?side1 ?side2 A4.out ?sideE ?sideG ?sideP).mono ?_); (case side1 => exact cs ((Kd.C_below HR1.out HB.out))); (case side2 => exact HC1.out); (case sideE => (first | exact enters_of Tryz.func40 (by kernel_rfl) rfl | exact enters_of Tryz.func47 (by kernel_rfl) rfl)); (case sideG => (first | exact impl_ShiftPoly_c1 _ _ _ _ _ (by (first | (simp; done) | exact blk_cell1 (by (with_reducible repeat (first | refine blk_drewN ?_ _ | refine blk_drew ?_ | refine blk_alloc ?_ _)); (first | exact BK541.out | exact BK542.out)) | (simp [*]; done))) (by (first | (simp; done) | exact blk_cell1 (by (with_reducible repeat (first | refine blk_drewN ?_ _ | refine blk_drew ?_ | refine blk_alloc ?_ _)); (first | exact BK541.out | exact BK542.out)) | (simp [*]; done))) | exact always_gives _)); (case sideP => (first | (simp; done) | exact blk_cell1 (by (with_reducible repeat (first | refine blk_drewN ?_ _ | refine blk_drew ?_ | refine blk_alloc ?_ _)); (first | exact BK541.out | exact BK542.out)) | (simp [*]; done))); rintro e w22 ⟨rfl, hb⟩; have n0_ := as0 (blk_below (g := gb541) (o := .cells #[.int .i64 a0] 2 (0, 0)) (by (with_reducible repeat (first | refine blk_drewN ?_ _ | refine blk_drew ?_ | refine blk_alloc ?_ _)); exact BK541.out) hb); have n1_ := as0 (blk_below (g := gb542) (o := .cells #[.int .i64 a2] 2 (0, 0)) (by (with_reducible repeat (first | refine blk_drewN ?_ _ | refine blk_drew ?_ | refine blk_alloc ?_ _)); exact BK542.out) hb); have n2_ := as0 (below_step (by repeat (first | (with_reducible first | exact HB.out | apply below_alloc | apply pw_below_drewN | apply below_drew1 | refine below_set ?_ GE541.out | refine below_set ?_ GE542.out) | exact HB.out)) hb); clear BK541; clear BK542; clear HB; have BK541 := n0_; have BK542 := n1_; have HB := n2_; clear n0_ n1_ n2_; (try clear hb); (try clear hb2); (try clear hk); (try clear hi)))
  go_ret2
  exact ⟨_, er_, by first | exact Kd.R_nil _ _ _ _ _ | exact Kd.N_nil _ _ _ _ _ | exact Kd.V_nil _ _ _ _ _ | exact Kd.Q_nil _ _ _ _ _ | exact Kd.S_nil _ _ _ _ _, by repeat (first | (with_reducible first | exact HB.out | apply below_alloc | apply pw_below_drewN | apply below_drew1 | refine below_set ?_ GE541.out | refine below_set ?_ GE542.out) | exact HB.out)⟩
def spec_l01Compose.l0 : Nat → Int → List Int → List Int → List Int → Int → Option (List Int)
 | 0, _, _, _, _, _ => none
 | k + 1, x0, x1, x2, x7, x8 => if x8 ≥ 0 then ((spec_l01Times.f k x0 x7 x2).bind fun t559 => (if 0 ≤ x8 then (if x8 < (x1.length : Int) then ((spec_l01Trim.f k (([rd x1 x8] : List Int))).bind fun t566 => ((spec_l01Add.f k x0 t559 t566 1).bind fun t569 => (spec_l01Compose.l0 k x0 x1 x2 t569 (wrap64 (x8 - 1))))) else (none)) else (none))) else (some x7)
def spec_l01Compose.f (k : Nat) (a0 : Int) (l1 : List Int) (l2 : List Int) : Option (List Int) := spec_l01Compose.l0 k a0 l1 l2 (([] : List Int)) (wrap64 ((l1.length : Int) - 1))
def spec_l01Compose.T5 : Bool × List (List Nat × List Nat) := (true, [([], []), ([], []), ([], []), ([], []), ([1, 2, 3], [1, 2, 3]), ([], []), ([], []), ([5, 6], [5, 6]), ([7], [7]), ([8], [8]), ([9, 4], [9]), ([0, 4, 10, 10], [0, 4, 10]), ([11, 11, 0, 1, 2, 3, 4, 5, 6, 7, 8, 9, 10, 11], [2, 11])])
def spec_l01Compose.B5 : List Nat := [0, 0, 0, 0, 14, 0, 0, 96, 224, 480, 1022, 2047, 4095]
theorem spec_l01Compose.tab5 : rtab .any (opsOf Tryz.f44 5) = spec_l01Compose.T5 := by kernel_rfl
theorem spec_l01Compose.bits5 : waitsOk spec_l01Compose.T5.2 spec_l01Compose.B5 = true := by kernel_rfl
set_option maxHeartbeats 8000000 in
set_option maxRecDepth 100000 in
theorem spec_l01Compose.calls (k : Nat) (a0 : Int) (A1 : Option Addr) (c1 : Nat) (l1 : List Int) (A2 : Option Addr) (c2 : Nat) (l2 : List Int) (r : List Int) (w : World) (hr1 : Kd.C (Kd.int .i64) w A1 l1.length l1) (hc1 : l1.length ≤ c1) (hr2 : Kd.C (Kd.int .i64) w A2 l2.length l2) (hc2 : l2.length ≤ c2) (h : spec_l01Compose.f k a0 l1 l2 = some r) :
  Calls Tryz.prog 44 #[.int .i64 a0, .slice A1 l1.length c1, .slice A2 l2.length c2] w fun e w' => ∃ v0_ : Value, e = .returned (v0_) ∧ Kd.R (Kd.int .i64) 2 w' w.heap.size (fun _ => True) v0_ r ∧ Below w.heap.size w w' := by
 have HR1 := as0 hr1
 have HC1 := as0 hc1
 clear hr1 hc1
 have HR2 := as0 hr2
 have HC2 := as0 hc2
 clear hr2 hc2
 have HB := as0 (Below.refl w.heap.size w)
 have H : (spec_l01Compose.l0 k a0 l1 l2 (([] : List Int)) (wrap64 ((l1.length : Int) - 1))) = some r := h
 clear h
 obtain ⟨y556, hy556⟩ : ∃ y_ : List Int, y_ = (([] : List Int)) := ⟨_, rfl⟩
 replace H : (spec_l01Compose.l0 k a0 l1 l2 y556 (wrap64 ((l1.length : Int) - 1))) = some r := by first | (rw [hy556]; with_reducible exact H) | (have H2_ := (Option.bind_some _ _).symm.trans H; rw [hy556]; with_reducible exact H2_) | (have H2_ := (Option.bind_some _ _).symm.trans H; with_reducible exact H2_) | with_reducible exact H | (rw [hy556]; exact H) | exact H
 have Ny556 := as0 hy556
 clear hy556
 have H' := as0 H
 clear H
 go_enter Tryz.func44, Tryz.ntmps44
 go_wp2_with (first | ((with_reducible refine gate_dst (N := 9) rfl ?_); refine Kd.R_lit (Kd.int .i64) _ 2 ?hg (N := 9) ?hd (xs := ([] : List Int)) (inner := []) (ok := fun _ => True) (okp := fun _ => True) ?hr ?hp (fun _ hk => hk) trivial (Below.refl _ _) (Nat.le_refl _) (by simp) ?_; (case hd => rfl); (case hg => rfl); (case hr => first | (go_simp; done) | (go_simp; rfl)); (case hp => exact (Reps.none _ _)); intro v557 w4 ho5 hb hg_ hnew_; clear hg_ hnew_; (first | rw [← Ny556.out] at ho5 | (simp only [Int.reduceToNat] at ho5; rw [← Ny556.out] at ho5)); have n0_ := as0 (Kd.R_lower ho5 (below_size (bs HB))); have n1_ := as0 (below_step (bs HB) hb); clear HB; have HO558 := n0_; have HB := n1_; clear n0_ n1_; clear hb ho5))
 go_loopg [7, 8] k (fun kq v7 v8 w' => ∃ (x7_1 : List Int) (x8_1 : Int), v8 = .int .i64 x8_1 ∧ Aside0 (spec_l01Compose.l0 kq a0 l1 l2 x7_1 x8_1 = some r) ∧ Aside0 (kq ≤ k) ∧ Aside0 (Kd.R (Kd.int .i64) 2 w' w.heap.size (fun _ => True) v7 x7_1) ∧ Aside0 (Below w.heap.size w w'))
 case atStart => exact ⟨(y556), (wrap64 ((l1.length : Int) - 1)), ea_, H', ⟨Nat.le_refl _⟩, ⟨rs HO558⟩, ⟨bs HB⟩⟩
 case round =>
  clear H'
  try clear c1
  try clear c2
  try clear p2
  try clear c4
  obtain ⟨x7_1, x8_1, rfl, HA, HK1, HO_7, HB⟩ := hrel
  cases gk with
  | zero => exact absurd HA.out (by simp [spec_l01Compose.l0])
  | succ k1 =>
   have H := HA.out
   clear HA
   simp only [spec_l01Compose.l0] at H
   by_cases c6 : x8_1 ≥ 0
   ·
    rw [if_pos c6] at H
    have c6b0 : decide (0 ≤ x8_1) = true := decide_eq_true c6
    clear c6
    replace H := Option.bind_eq_some_iff.mp H
    obtain ⟨t559, A70, H⟩ := H
    have A7 := as0 A70
    clear A70
    by_cases c8 : 0 ≤ x8_1
    ·
     rw [if_pos c8] at H
     have c8b0 : decide (0 ≤ x8_1) = true := decide_eq_true c8
     clear c8
     by_cases c9 : x8_1 < (l1.length : Int)
     ·
      rw [if_pos c9] at H
      have c9b0 : decide (x8_1 < (l1.length : Int)) = true := decide_eq_true c9
      clear c9
      obtain ⟨y563, hy563⟩ : ∃ y_ : List Int, y_ = (([rd l1 x8_1] : List Int)) := ⟨_, rfl⟩
      replace H : ((spec_l01Trim.f k1 y563).bind fun t566 => ((spec_l01Add.f k1 a0 t559 t566 1).bind fun t569 => (spec_l01Compose.l0 k1 a0 l1 l2 t569 (wrap64 (x8_1 - 1))))) = some r := by first | (rw [hy563]; with_reducible exact H) | (have H2_ := (Option.bind_some _ _).symm.trans H; rw [hy563]; with_reducible exact H2_) | (have H2_ := (Option.bind_some _ _).symm.trans H; with_reducible exact H2_) | with_reducible exact H | (rw [hy563]; exact H) | exact H
      have Ny563 := as0 hy563
      clear hy563
      replace H := Option.bind_eq_some_iff.mp H
      obtain ⟨t566, A100, H⟩ := H
      have A10 := as0 A100
      clear A100
      replace H := Option.bind_eq_some_iff.mp H
      obtain ⟨t569, A110, H⟩ := H
      have A11 := as0 A110
      clear A110
      have H' := as0 H
      clear H
      obtain ⟨Ao12, co12, eo12⟩ := Kd.R_slice HO_7.out
      subst eo12
      try go_wp2
      have n0_ := as0 (Kd.R_drew HO_7.out)
      have n1_ := as0 (below_drew1 HB.out)
      clear HO_7
      clear HB
      have HO_7 := n0_
      have HB := n1_
      clear n0_ n1_
      have p562 : 0 ≤ (x8_1 : Int) := oa_
      have q562 : x8_1 < (l1.length : Int) := oa_
      obtain ⟨ad562, e562, hx562_0⟩ := Kd.at_int HR1.out x8_1 p562 q562
      have hw562_0 := hx562_0
      cases e562
      replace hx562_0 := (HB.out.cell (World.block_lt_of_cell? w _ hx562_0)).trans hx562_0
      replace p562 := eq_true p562
      replace q562 := eq_true q562
      refine start_ (n := 13) (S := fun w' => w'.cell? (ad562.add (x8_1).toNat) = some (.int .i64 (rd l1 x8_1))) (ds := []) #[false, false, false, false, false, false, false, false, false, false, false, false, false] (by kernel_rfl) rfl rfl (((HB.out.cell (World.block_lt_of_cell? w _ hw562_0)).trans hw562_0)) (fun hHeld => ?_); refine with_tabW spec_l01Compose.tab5 spec_l01Compose.bits5 (fun HT_ HW_ => ?_)
      generalize wr.drew = w13 at HO_7 HB hx562_0 hHeld ⊢
      refine pm_ HT_ (i := 0) (N := some 17) ?_
      refine pm_ HT_ (i := 1) (N := some 18) ?_
      refine pm_ HT_ (i := 2) (N := some 19) ?_
      refine pm_ HT_ (i := 3) (N := some 20) ?_
      refine pm_ HT_ (i := 5) (N := some 22) ?_
      refine pm_ HT_ (i := 6) (N := some 23) ?_
      refine pm_ HT_ (i := 7) (N := some 24) ?_
      refine take_ (i := 8) (N := some 25) (v := ?_) (a' := ?_) #[true, true, true, true, false, true, true, true, true, false, false, false, false] rfl rfl (take_ofW HT_.out HW_.out (by kernel_rfl)) (fun _ _ _ h => h) (Or.inl ⟨by rfl, ?_⟩) hHeld ?_ ?_
      rotate_left
      ·
       intro w' s0
       go_simp
       with_reducible rfl
      rotate_left
      ·
       simp only [Act.put, List.setIfInBounds_toArray, List.set_cons_zero, List.set_cons_succ, i64_w, i32_w]
       rfl
      refine join_ (σ := Value × Value) 3 #[true, true, true, true, true, true, true, true, true, true, false, false, false] (fun s_ => [(21, s_.1), (26, s_.2)]) (fun s_ w' => (w'.cell? (ad562.add (x8_1).toNat) = some (.int .i64 (rd l1 x8_1))) ∧ (Kd.R (Kd.int .i64) 2 w' w.heap.size (fun k_ => some k_ ≠ (s_.2 : Value).ownBlock ∧ some k_ ≠ (.slice Ao12 x7_1.length co12 : Value).ownBlock) s_.1 t559) ∧ (Kd.R (Kd.int .i64) 2 w' w.heap.size (fun k_ => some k_ ≠ (s_.1 : Value).ownBlock ∧ some k_ ≠ (.slice Ao12 x7_1.length co12 : Value).ownBlock) s_.2 y563) ∧ (Kd.R (Kd.int .i64) 2 w' w.heap.size (fun k_ => some k_ ≠ (s_.1 : Value).ownBlock ∧ some k_ ≠ (s_.2 : Value).ownBlock) (.slice Ao12 x7_1.length co12) x7_1) ∧ (Below w.heap.size w w')) ?_ ?_
      rotate_left
      ·
       intro hCont
       refine two_ (i := 4) (j := 9) (Ni := some 21) (Nj := some 26) #[true, true, true, true, true, true, true, true, true, false, false, false, false] #[true, true, true, true, false, true, true, true, true, true, false, false, false] rfl rfl rfl rfl (two_of HT_.out (by kernel_rfl)) (by decide) (by decide) (fun K hK => ?_) (fun K hK => ?_)
       ·
        skip
        refine goes_ Tryz.func69 (by kernel_rfl) rfl #[.int .i64 a0, .slice Ao12 x7_1.length co12, .slice A2 l2.length c2] (by rfl) rfl rfl (by (try simp only [List.map_toArray, List.map_cons, List.map_nil]); first | done | rfl | (simp only [List.length_drop, List.length_take]; rfl)) ?_
        with_reducible refine (spec_l01Times.calls k1 a0 _ _ x7_1 _ _ l2 t559 _ ?side1 ?side2 ?side3 ?side4 A7.out).mono ?_
        (case side1 => exact cs ((Kd.R_reads' HO_7.out).2.2))
        (case side2 => exact (Kd.R_reads' HO_7.out).2.1)
        (case side3 => exact cs ((Kd.C_below HR2.out HB.out)))
        (case side4 => exact HC2.out)
        rintro e w14 ⟨v560, rfl, ho0, hb⟩
        refine ⟨_, rfl, ?_⟩
        have n0_ := as0 (Kd.R_elder' (rs HO_7) (Kd.R_base ho0) hb)
        have n1_ := as0 (Kd.R_lower (Kd.R_new' ho0 (Kd.R_lt (rs HO_7))) (below_size (bs HB)))
        have n2_ := as0 (below_step (bs HB) hb)
        clear HO_7
        clear HB
        have HO_7 := n0_
        have HO561 := n1_
        have HB := n2_
        clear n0_ n1_ n2_
        (try clear hb)
        (try clear hb2)
        (try clear hk)
        (try clear hi)
        (try clear ho0)
        refine hK.out _ _ (((HB.out.cell (World.block_lt_of_cell? w _ hw562_0)).trans hw562_0)) (fun hHeld => ?_)
        clear hK K
        refine nm_ (some 21) ?_
        refine one_ (i := 9) (N := some 26) #[true, true, true, true, true, true, true, true, true, true, false, false, false] rfl rfl (one_of HT_.out (by kernel_rfl)) (by decide) (fun K hK => ?_)
        refine Kd.R_lit_step (Kd.int .i64) _ 2 ?hg (N := 26) ?hd (xs := ([rd l1 x8_1] : List Int)) (inner := [.int .i64 (rd l1 x8_1)]) (ok := fun _ => True) (okp := fun _ => True) ?hr ?hp (fun _ hk => hk) trivial (Below.refl _ _) (Nat.le_refl _) (by simp) ?_; (case hd => rfl); (case hg => rfl); (case hr => first | (go_simp; done) | (go_simp; rfl)); (case hp => exact (Reps.one (show Kd.M (Kd.int .i64) _ _ _ (rd l1 x8_1) [.int .i64 (rd l1 x8_1)] from rfl) (Reps.none _ _)))
        intro v564 w15 ho16 hb hg_ hnew_
        clear hg_ hnew_
        (first | rw [← Ny563.out] at ho16 | (simp only [Int.reduceToNat] at ho16; rw [← Ny563.out] at ho16))
        have n0_ := as0 (Kd.R_elder' (rs HO_7) (Kd.R_base ho16) hb)
        have n1_ := as0 (Kd.R_elder' (rs HO561) (Kd.R_base ho16) hb)
        have n2_ := as0 (Kd.R_lower (Kd.R_new' (Kd.R_new' ho16 (Kd.R_lt (rs HO_7))) (Kd.R_lt (rs HO561))) (below_size (bs HB)))
        have n3_ := as0 (below_step (bs HB) hb)
        clear HO_7
        clear HO561
        clear HB
        have HO_7 := n0_
        have HO561 := n1_
        have HO565 := n2_
        have HB := n3_
        clear n0_ n1_ n2_ n3_
        clear hb ho16
        refine hK.out _ _ (((HB.out.cell (World.block_lt_of_cell? w _ hw562_0)).trans hw562_0)) (fun hHeld => ?_)
        clear hK K
        refine nm_ (some 26) ?_
        exact norm_ (by simp only [putAll, Act.put, List.setIfInBounds_toArray, List.set_cons_zero, List.set_cons_succ]) (hCont (v560, v564) _ ⟨hHeld, (by (with_reducible repeat (first | apply Kd.R_alloc | apply Kd.R_drewN | apply Kd.R_drew)); exact Kd.R_mono HO561.out (fun _ hk => ⟨hk.2, hk.1.2⟩)), (by (with_reducible repeat (first | apply Kd.R_alloc | apply Kd.R_drewN | apply Kd.R_drew)); exact Kd.R_mono HO565.out (fun _ hk => ⟨hk.2, hk.1.2⟩)), (by (with_reducible repeat (first | apply Kd.R_alloc | apply Kd.R_drewN | apply Kd.R_drew)); exact Kd.R_mono HO_7.out (fun _ hk => ⟨hk.1.2, hk.2⟩)), (bs HB)⟩)
       ·
        skip
        refine Kd.R_lit_step (Kd.int .i64) _ 2 ?hg (N := 26) ?hd (xs := ([rd l1 x8_1] : List Int)) (inner := [.int .i64 (rd l1 x8_1)]) (ok := fun _ => True) (okp := fun _ => True) ?hr ?hp (fun _ hk => hk) trivial (Below.refl _ _) (Nat.le_refl _) (by simp) ?_; (case hd => rfl); (case hg => rfl); (case hr => first | (go_simp; done) | (go_simp; rfl)); (case hp => exact (Reps.one (show Kd.M (Kd.int .i64) _ _ _ (rd l1 x8_1) [.int .i64 (rd l1 x8_1)] from rfl) (Reps.none _ _)))
        intro v564 w14 ho15 hb hg_ hnew_
        clear hg_ hnew_
        (first | rw [← Ny563.out] at ho15 | (simp only [Int.reduceToNat] at ho15; rw [← Ny563.out] at ho15))
        have n0_ := as0 (Kd.R_elder' (rs HO_7) (Kd.R_base ho15) hb)
        have n1_ := as0 (Kd.R_lower (Kd.R_new' ho15 (Kd.R_lt (rs HO_7))) (below_size (bs HB)))
        have n2_ := as0 (below_step (bs HB) hb)
        clear HO_7
        clear HB
        have HO_7 := n0_
        have HO565 := n1_
        have HB := n2_
        clear n0_ n1_ n2_
        clear hb ho15
        refine hK.out _ _ (((HB.out.cell (World.block_lt_of_cell? w _ hw562_0)).trans hw562_0)) (fun hHeld => ?_)
        clear hK K
        refine nm_ (some 26) ?_
        refine one_ (i := 4) (N := some 21) #[true, true, true, true, true, true, true, true, true, true, false, false, false] rfl rfl (one_of HT_.out (by kernel_rfl)) (by decide) (fun K hK => ?_)
        refine goes_ Tryz.func69 (by kernel_rfl) rfl #[.int .i64 a0, .slice Ao12 x7_1.length co12, .slice A2 l2.length c2] (by rfl) rfl rfl (by (try simp only [List.map_toArray, List.map_cons, List.map_nil]); first | done | rfl | (simp only [List.length_drop, List.length_take]; rfl)) ?_
        with_reducible refine (spec_l01Times.calls k1 a0 _ _ x7_1 _ _ l2 t559 _ ?side1 ?side2 ?side3 ?side4 A7.out).mono ?_
        (case side1 => exact cs ((Kd.R_reads' HO_7.out).2.2))
        (case side2 => exact (Kd.R_reads' HO_7.out).2.1)
        (case side3 => exact cs ((Kd.C_below HR2.out HB.out)))
        (case side4 => exact HC2.out)
        rintro e w16 ⟨v560, rfl, ho0, hb⟩
        refine ⟨_, rfl, ?_⟩
        have n0_ := as0 (Kd.R_elder' (rs HO_7) (Kd.R_base ho0) hb)
        have n1_ := as0 (Kd.R_elder' (rs HO565) (Kd.R_base ho0) hb)
        have n2_ := as0 (Kd.R_lower (Kd.R_new' (Kd.R_new' ho0 (Kd.R_lt (rs HO_7))) (Kd.R_lt (rs HO565))) (below_size (bs HB)))
        have n3_ := as0 (below_step (bs HB) hb)
        clear HO_7
        clear HO565
        clear HB
        have HO_7 := n0_
        have HO565 := n1_
        have HO561 := n2_
        have HB := n3_
        clear n0_ n1_ n2_ n3_
        (try clear hb)
        (try clear hb2)
        (try clear hk)
        (try clear hi)
        (try clear ho0)
        refine hK.out _ _ (((HB.out.cell (World.block_lt_of_cell? w _ hw562_0)).trans hw562_0)) (fun hHeld => ?_)
        clear hK K
        refine nm_ (some 21) ?_
        exact norm_ (by simp only [putAll, Act.put, List.setIfInBounds_toArray, List.set_cons_zero, List.set_cons_succ]) (hCont (v560, v564) _ ⟨hHeld, (by (with_reducible repeat (first | apply Kd.R_alloc | apply Kd.R_drewN | apply Kd.R_drew)); exact Kd.R_mono HO561.out (fun _ hk => ⟨hk.2, hk.1.2⟩)), (by (with_reducible repeat (first | apply Kd.R_alloc | apply Kd.R_drewN | apply Kd.R_drew)); exact Kd.R_mono HO565.out (fun _ hk => ⟨hk.2, hk.1.2⟩)), (by (with_reducible repeat (first | apply Kd.R_alloc | apply Kd.R_drewN | apply Kd.R_drew)); exact Kd.R_mono HO_7.out (fun _ hk => ⟨hk.2, hk.1.2⟩)), (bs HB)⟩)
      rintro ⟨v560, v564⟩ w17 ⟨hS_, h0_, h1_, h2_, h3_⟩
      have n0_ : Aside0 (Kd.R (Kd.int .i64) 2 w17 w.heap.size (fun k_ => some k_ ≠ (v564 : Value).ownBlock ∧ some k_ ≠ (.slice Ao12 x7_1.length co12 : Value).ownBlock) v560 t559) := ⟨h0_⟩
      have n1_ : Aside0 (Kd.R (Kd.int .i64) 2 w17 w.heap.size (fun k_ => some k_ ≠ (v560 : Value).ownBlock ∧ some k_ ≠ (.slice Ao12 x7_1.length co12 : Value).ownBlock) v564 y563) := ⟨h1_⟩
      have n2_ : Aside0 (Kd.R (Kd.int .i64) 2 w17 w.heap.size (fun k_ => some k_ ≠ (v560 : Value).ownBlock ∧ some k_ ≠ (v564 : Value).ownBlock) (.slice Ao12 x7_1.length co12) x7_1) := ⟨h2_⟩
      have n3_ : Aside0 (Below w.heap.size w w17) := ⟨h3_⟩
      clear HO_7
      clear HB
      clear h0_ h1_ h2_ h3_
      have HO561 := n0_
      have HO565 := n1_
      have HO_7 := n2_
      have HB := n3_
      clear n0_ n1_ n2_ n3_
      have hHeld : w17.cell? (ad562.add (x8_1).toNat) = some (.int .i64 (rd l1 x8_1)) := hS_
      obtain ⟨Ao18, co18, eo18⟩ := Kd.R_slice HO565.out
      (first | subst eo18 | (injection eo18 with f1_ f2_ f3_; have f4_ := f1_.symm; have f5_ := f3_.symm; clear f1_ f2_ f3_; subst f4_; subst f5_))
      refine norm_ (a' := ?_) ?_ ?_
      rotate_left
      ·
       simp only [putAll, Act.put, List.setIfInBounds_toArray, List.set_cons_zero, List.set_cons_succ]
       rfl
      refine one_ (i := 10) (N := some 27) #[true, true, true, true, true, true, true, true, true, true, true, false, false] rfl rfl (one_of HT_.out (by kernel_rfl)) (by decide) (fun K hK => ?_)
      refine goes_ Tryz.func74 (by kernel_rfl) rfl #[.slice Ao18 y563.length co18] (by rfl) rfl rfl (by (try simp only [List.map_toArray, List.map_cons, List.map_nil]); first | done | rfl | (simp only [List.length_drop, List.length_take]; rfl)) ?_
      with_reducible refine (spec_l01Trim.calls k1 _ _ y563 t566 _ ?side1 ?side2 A10.out).mono ?_
      (case side1 => exact cs ((Kd.R_reads' HO565.out).2.2))
      (case side2 => exact (Kd.R_reads' HO565.out).2.1)
      rintro e w19 ⟨v567, rfl, ho0, hb⟩
      refine ⟨_, rfl, ?_⟩
      have n0_ := as0 (Kd.R_elder' (rs HO_7) (Kd.R_base ho0) hb)
      have n1_ := as0 (Kd.R_elder' (rs HO561) (Kd.R_base ho0) hb)
      have n2_ := as0 (Kd.R_elder' (rs HO565) (Kd.R_base ho0) hb)
      have n3_ := as0 (Kd.R_lower (Kd.R_new' (Kd.R_new' (Kd.R_new' ho0 (Kd.R_lt (rs HO_7))) (Kd.R_lt (rs HO561))) (Kd.R_lt (rs HO565))) (below_size (bs HB)))
      have n4_ := as0 (below_step (bs HB) hb)
      clear HO_7
      clear HO561
      clear HO565
      clear HB
      have HO_7 := n0_
      have HO561 := n1_
      have HO565 := n2_
      have HO568 := n3_
      have HB := n4_
      clear n0_ n1_ n2_ n3_ n4_
      (try clear hb)
      (try clear hb2)
      (try clear hk)
      (try clear hi)
      (try clear ho0)
      obtain ⟨Ao20, co20, eo20⟩ := Kd.R_slice HO561.out
      (first | subst eo20 | (injection eo20 with f1_ f2_ f3_; have f4_ := f1_.symm; have f5_ := f3_.symm; clear f1_ f2_ f3_; subst f4_; subst f5_))
      obtain ⟨Ao21, co21, eo21⟩ := Kd.R_slice HO568.out
      (first | subst eo21 | (injection eo21 with f1_ f2_ f3_; have f4_ := f1_.symm; have f5_ := f3_.symm; clear f1_ f2_ f3_; subst f4_; subst f5_))
      refine hK.out _ _ (((HB.out.cell (World.block_lt_of_cell? w _ hw562_0)).trans hw562_0)) (fun hHeld => ?_)
      clear hK K
      refine nm_ (some 27) ?_
      refine one_ (i := 11) (N := some 28) #[true, true, true, true, true, true, true, true, true, true, true, true, false] rfl rfl (one_of HT_.out (by kernel_rfl)) (by decide) (fun K hK => ?_)
      refine goes_ Tryz.func68 (by kernel_rfl) rfl #[.int .i64 a0, .slice Ao20 t559.length co20, .slice Ao21 t566.length co21, .int .i64 1] (by rfl) rfl rfl (by (try simp only [List.map_toArray, List.map_cons, List.map_nil]); first | done | rfl | (simp only [List.length_drop, List.length_take]; rfl)) ?_
      with_reducible refine (spec_l01Add.calls k1 a0 _ _ t559 _ _ t566 1 t569 _ ?side1 ?side2 ?side3 ?side4 A11.out).mono ?_
      (case side1 => exact cs ((Kd.R_reads' HO561.out).2.2))
      (case side2 => exact (Kd.R_reads' HO561.out).2.1)
      (case side3 => exact cs ((Kd.R_reads' HO568.out).2.2))
      (case side4 => exact (Kd.R_reads' HO568.out).2.1)
      rintro e w22 ⟨v570, rfl, ho0, hb⟩
      refine ⟨_, rfl, ?_⟩
      have n0_ := as0 (Kd.R_elder' (rs HO_7) (Kd.R_base ho0) hb)
      have n1_ := as0 (Kd.R_elder' (rs HO561) (Kd.R_base ho0) hb)
      have n2_ := as0 (Kd.R_elder' (rs HO565) (Kd.R_base ho0) hb)
      have n3_ := as0 (Kd.R_elder' (rs HO568) (Kd.R_base ho0) hb)
      have n4_ := as0 (Kd.R_lower (Kd.R_new' (Kd.R_new' (Kd.R_new' (Kd.R_new' ho0 (Kd.R_lt (rs HO_7))) (Kd.R_lt (rs HO561))) (Kd.R_lt (rs HO565))) (Kd.R_lt (rs HO568))) (below_size (bs HB)))
      have n5_ := as0 (below_step (bs HB) hb)
      clear HO_7
      clear HO561
      clear HO565
      clear HO568
      clear HB
      have HO_7 := n0_
      have HO561 := n1_
      have HO565 := n2_
      have HO568 := n3_
      have HO571 := n4_
      have HB := n5_
      clear n0_ n1_ n2_ n3_ n4_ n5_
      (try clear hb)
      (try clear hb2)
      (try clear hk)
      (try clear hi)
      (try clear ho0)
      refine hK.out _ _ (((HB.out.cell (World.block_lt_of_cell? w _ hw562_0)).trans hw562_0)) (fun hHeld => ?_)
      clear hK K
      refine nm_ (some 28) ?_
      refine pm_ HT_ (i := 12) (N := some 7) ?_
      refine done_ (done_of HT_.out (by kernel_rfl)) ?_
      try go_wp2
      go_roundg k1
      case measure => have := HK1.out; omega
      case rel => exact ⟨(t569), (wrap64 (x8_1 - 1)), ea_, H', ⟨by have := HK1.out; omega⟩, ⟨by (with_reducible repeat (first | apply Kd.R_alloc | apply Kd.R_drewN | apply Kd.R_drew)); exact Kd.R_mono HO571.out (fun _ hk => trivial)⟩, ⟨bs HB⟩⟩
     ·
      rw [if_neg c9] at H
      exact absurd H (by simp)
    ·
     rw [if_neg c8] at H
     exact absurd H (by simp)
   ·
    rw [if_neg c6] at H
    have c6b0 : decide (0 ≤ x8_1) = false := decide_eq_false c6
    clear c6
    obtain rfl := Option.some.inj H
    go_wp2
    go_ret
    exact ⟨_, er_, rs HO_7, bs HB⟩
def spec_ShiftPoly.j0 : Nat → Int → List Int → Int → Int → Bool → Option (List Int × Int)
 | 0, _, _, _, _, _ => none
 | k + 1, x0, x1, x2, x8, x21 => if x21 = true then (some (([] : List Int), 2)) else (if x8 = 0 then ((spec_l01Compose.f k x0 x1 (([x2, 1] : List Int))).bind fun t580 => (some (t580, 0))) else (some (([] : List Int), x8)))
def spec_ShiftPoly.f (k : Nat) (a0 : Int) (l1 : List Int) (a2 : Int) : Option (List Int × Int) := (spec_l01Code.f k a0 (([l1] : List (List Int)))).bind fun t575 => (if t575 = 0 then ((spec_l01In.f a2 0 (wrap64 (a0 - 1))).bind fun t576 => (spec_ShiftPoly.j0 k a0 l1 a2 t575 (!t576))) else (spec_ShiftPoly.j0 k a0 l1 a2 t575 false))
set_option maxHeartbeats 8000000 in
set_option maxRecDepth 100000 in
theorem spec_ShiftPoly.calls (k : Nat) (a0 : Int) (P1_ : Nat → Prop) (A1 : Option Addr) (c1 : Nat) (l1 : List Int) (a2 : Int) (r1 : List Int) (r2 : Int) (w : World) (hs1 : Kd.V (Kd.int .i64) 2 w w.heap.size (fun k_ => P1_ k_) (.slice A1 l1.length c1) l1) (h : spec_ShiftPoly.f k a0 l1 a2 = some (r1, r2)) :
  Calls Tryz.prog 12 #[.int .i64 a0, .slice A1 l1.length c1, .int .i64 a2] w fun e w' => ∃ v0_ : Value, e = .returned (.tuple #[v0_, .int .i64 r2]) ∧ Kd.R (Kd.int .i64) 2 w' w.heap.size (fun k_ => (w.heap.size ≤ k_)) v0_ r1 ∧ Below w.heap.size w w' := by
 have HO1 := as0 (show Kd.V (Kd.int .i64) 2 w w.heap.size (fun k_ => (P1_ k_ ∨ w.heap.size ≤ k_)) (.slice A1 l1.length c1) l1 from Kd.V_mono hs1 (fun k_ hk => .inl hk))
 have HB := as0 (Below.refl w.heap.size w)
 have H : ((spec_l01Code.f k a0 (([l1] : List (List Int)))).bind fun t575 => (if t575 = 0 then ((spec_l01In.f a2 0 (wrap64 (a0 - 1))).bind fun t576 => (spec_ShiftPoly.j0 k a0 l1 a2 t575 (!t576))) else (spec_ShiftPoly.j0 k a0 l1 a2 t575 false))) = some (r1, r2) := h
 clear h
 obtain ⟨y572, hy572⟩ : ∃ y_ : List (List Int), y_ = (([l1] : List (List Int))) := ⟨_, rfl⟩
 replace H : ((spec_l01Code.f k a0 y572).bind fun t575 => (if t575 = 0 then ((spec_l01In.f a2 0 (wrap64 (a0 - 1))).bind fun t576 => (spec_ShiftPoly.j0 k a0 l1 a2 t575 (!t576))) else (spec_ShiftPoly.j0 k a0 l1 a2 t575 false))) = some (r1, r2) := by first | (rw [hy572]; with_reducible exact H) | (have H2_ := (Option.bind_some _ _).symm.trans H; rw [hy572]; with_reducible exact H2_) | (have H2_ := (Option.bind_some _ _).symm.trans H; with_reducible exact H2_) | with_reducible exact H | (rw [hy572]; exact H) | exact H
 have Ny572 := as0 hy572
 clear hy572
 replace H := Option.bind_eq_some_iff.mp H
 obtain ⟨t575, A40, H⟩ := H
 have A4 := as0 A40
 clear A40
 have HC5 := as0 H
 clear H
 go_enter Tryz.func12, Tryz.ntmps12
 go_upto_region 2 with (first | ((with_reducible refine gate_dst (N := 11) rfl ?_); refine Kd.N_lit (Kd.slice 2 (Kd.int .i64)) _ 24 ?hg (N' := 11) ?hd (xs := ([l1] : List (List Int))) (inner := [.slice A1 l1.length c1]) (ok := (fun k_ => (P1_ k_ ∨ w.heap.size ≤ k_))) (okp := (fun k_ => (P1_ k_ ∨ w.heap.size ≤ k_))) ?hr ?hp (fun _ hk => hk) ((show ∀ k_, w.heap.size ≤ k_ → (fun k_ => (P1_ k_ ∨ w.heap.size ≤ k_)) k_ from fun k_ hk => (.inr (Nat.le_trans (below_size (bs HB)) hk))) _ (Nat.le_refl _)) (Below.refl _ _) (Nat.le_refl _) (by simp) ?_; (case hd => rfl); (case hg => rfl); (case hr => first | (go_simp; done) | (go_simp; rfl)); (case hp => exact (Reps.one (show Kd.FK (Kd.slice 2 (Kd.int .i64)) _ _ l1 [.slice A1 l1.length c1] from (Kd.FK_slice_mk (Kd.V_reads' (Kd.V_mono (ok' := (fun k_ => (P1_ k_ ∨ w.heap.size ≤ k_))) (HO1.out) (fun k_ hk => hk))).2.1 (Kd.V_F (Kd.V_mono (ok' := (fun k_ => (P1_ k_ ∨ w.heap.size ≤ k_))) (HO1.out) (fun k_ hk => hk))))) (Reps.none _ _))); intro v573 w6 ho7 hb hg_ hnew_; clear hg_ hnew_; (first | rw [← Ny572.out] at ho7 | (simp only [Int.reduceToNat] at ho7; rw [← Ny572.out] at ho7)); have n0_ := as0 (Kd.V_elder' (by (with_reducible repeat (first | apply Kd.V_alloc | apply Kd.V_drewN | apply Kd.V_drew)); exact HO1.out) (Kd.N_base ho7) hb); have n1_ := as0 (Kd.N_lower ho7 (below_size (bs HB))); have n2_ := as0 (below_step (bs HB) hb); clear HO1; clear HB; have HO1 := n0_; have HO574 := n1_; have HB := n2_; clear n0_ n1_ n2_; clear hb ho7; obtain ⟨Ao8, co8, eo8⟩ := Kd.N_slice HO574.out; subst eo8) | ((with_reducible refine gate_callee (f := 42) rfl ?_); refine goesM_ (some 12) rfl rfl Tryz.func42 #[.int .i64 a0, .slice Ao8 y572.length co8] rfl ?_; (with_reducible refine (spec_l01Code.calls k a0 _ _ y572 t575 _ ?side1 ?side2 A4.out).mono ?_); (case side1 => exact cs ((Kd.N_reads' HO574.out).2.2)); (case side2 => exact (Kd.N_reads' HO574.out).2.1); rintro e w' ⟨rfl, ⟨nd, rfl⟩⟩; refine ⟨_, rfl, ?_⟩))
 (try simp only [Act.put, List.setIfInBounds_toArray, List.set_cons_zero, List.set_cons_succ])
 go_cut [21] (fun v21 wc => ∃ (kq : Nat) (x21_4 : Bool), v21 = .bool x21_4 ∧ Aside0 (spec_ShiftPoly.j0 kq a0 l1 a2 t575 x21_4 = some (r1, r2)) ∧ Aside0 (kq ≤ k) ∧ Aside0 (Kd.V (Kd.int .i64) 2 wc w.heap.size (fun k_ => (P1_ k_ ∨ w.heap.size ≤ k_)) (.slice A1 l1.length c1) l1) ∧ Aside0 (Below w.heap.size w wc))
 case first =>
  have H := HC5.out
  clear HC5
  by_cases c9 : t575 = 0
  ·
   rw [if_pos c9] at H
   have c9b0 : (t575 == 0) = true := beq_iff_eq.mpr c9
   have c9b1 : (t575 != 0) = false := bne_eq_false_iff_eq.mpr c9
   clear c9
   (first | rw [c9b0] | (simp only [i64_w, i32_w]; rw [c9b0]) | skip)
   replace H := Option.bind_eq_some_iff.mp H
   obtain ⟨t576, A100, H⟩ := H
   have A10 := as0 A100
   clear A100
   have H' := as0 H
   clear H
   go_wp2_with (first | (go_at_call 43; (with_reducible refine (spec_l01In.calls a2 0 (wrap64 (a0 - 1)) t576 _ A10.out).mono ?_); rintro e w' ⟨rfl, ⟨nd, rfl⟩⟩))
   go_meet
   case rel => exact ⟨_, (!t576), ea_, H', ⟨by first | omega | exact Nat.le_refl _⟩, ⟨by (with_reducible repeat (first | apply Kd.V_alloc | apply Kd.V_drewN | apply Kd.V_drew)); exact Kd.V_mono HO1.out (fun _ hk => hk.1)⟩, ⟨bs HB⟩⟩
  ·
   rw [if_neg c9] at H
   have c9b0 : (t575 == 0) = false := beq_eq_false_iff_ne.mpr c9
   have c9b1 : (t575 != 0) = true := bne_iff_ne.mpr c9
   (first | rw [c9b0] | (simp only [i64_w, i32_w]; rw [c9b0]) | skip)
   have H' := as0 H
   clear H
   go_wp2
   go_meet
   case rel => exact ⟨_, (false), ea_, H', ⟨by first | omega | exact Nat.le_refl _⟩, ⟨by (with_reducible repeat (first | apply Kd.V_alloc | apply Kd.V_drewN | apply Kd.V_drew)); exact Kd.V_mono HO1.out (fun _ hk => hk.1)⟩, ⟨bs HB⟩⟩
 case rest =>
  clear HC5
  try clear c1
  try clear p2
  try clear c4
  try clear p6
  try clear c9
  try clear c9b0
  try clear c9b1
  obtain ⟨kq, x21_4, rfl, HA, HJ4, HO_1, HB⟩ := hcut
  cases kq with
  | zero => exact absurd HA.out (by simp [spec_ShiftPoly.j0])
  | succ kj4 =>
   have H := HA.out
   clear HA
   simp only [spec_ShiftPoly.j0] at H
   by_cases c11 : x21_4 = true
   ·
    subst c11
    have H1 : (some (([] : List Int), 2)) = some (r1, r2) := by rw [if_pos rfl] at H; exact H
    clear H
    have H := H1
    clear H1
    simp only [Option.some.injEq, Prod.mk.injEq] at H
    obtain ⟨rfl, rfl⟩ := H
    go_wp2
    go_ret2
    exact ⟨_, er_, by first | exact Kd.R_nil _ _ _ _ _ | exact Kd.N_nil _ _ _ _ _ | exact Kd.V_nil _ _ _ _ _ | exact Kd.Q_nil _ _ _ _ _ | exact Kd.S_nil _ _ _ _ _, bs HB⟩
   ·
    replace c11 := Bool.eq_false_iff.mpr c11
    subst c11
    have H1 : (if t575 = 0 then ((spec_l01Compose.f kj4 a0 l1 (([a2, 1] : List Int))).bind fun t580 => (some (t580, 0))) else (some (([] : List Int), t575))) = some (r1, r2) := by rw [if_neg (show ¬ (false = true) by decide)] at H; exact H
    clear H
    have H := H1
    clear H1
    by_cases c12 : t575 = 0
    ·
     rw [if_pos c12] at H
     have c12b0 : (t575 == 0) = true := beq_iff_eq.mpr c12
     have c12b1 : (t575 != 0) = false := bne_eq_false_iff_eq.mpr c12
     clear c12
     obtain ⟨y577, hy577⟩ : ∃ y_ : List Int, y_ = (([a2, 1] : List Int)) := ⟨_, rfl⟩
     replace H : ((spec_l01Compose.f kj4 a0 l1 y577).bind fun t580 => (some (t580, 0))) = some (r1, r2) := by first | (rw [hy577]; with_reducible exact H) | (have H2_ := (Option.bind_some _ _).symm.trans H; rw [hy577]; with_reducible exact H2_) | (have H2_ := (Option.bind_some _ _).symm.trans H; with_reducible exact H2_) | with_reducible exact H | (rw [hy577]; exact H) | exact H
     have Ny577 := as0 hy577
     clear hy577
     replace H := Option.bind_eq_some_iff.mp H
     obtain ⟨t580, A130, H⟩ := H
     have A13 := as0 A130
     clear A130
     simp only [Option.some.injEq, Prod.mk.injEq] at H
     obtain ⟨rfl, rfl⟩ := H
     go_wp2_with (first | ((with_reducible refine gate_dst (N := 28) rfl ?_); refine Kd.R_lit (Kd.int .i64) _ 2 ?hg (N := 28) ?hd (xs := ([a2, 1] : List Int)) (inner := [.int .i64 a2, .int .i64 1]) (ok := fun _ => True) (okp := fun _ => True) ?hr ?hp (fun _ hk => hk) trivial (Below.refl _ _) (Nat.le_refl _) (by simp) ?_; (case hd => rfl); (case hg => rfl); (case hr => first | (go_simp; done) | (go_simp; rfl)); (case hp => exact (Reps.one (show Kd.M (Kd.int .i64) _ _ _ a2 [.int .i64 a2] from rfl) (Reps.one (show Kd.M (Kd.int .i64) _ _ _ 1 [.int .i64 1] from rfl) (Reps.none _ _)))); intro v578 w14 ho15 hb hg_ hnew_; clear hg_ hnew_; (first | rw [← Ny577.out] at ho15 | (simp only [Int.reduceToNat] at ho15; rw [← Ny577.out] at ho15)); have n0_ := as0 (Kd.V_elder' (by (with_reducible repeat (first | apply Kd.V_alloc | apply Kd.V_drewN | apply Kd.V_drew)); exact HO_1.out) (Kd.R_base ho15) hb); have n1_ := as0 (Kd.R_lower (Kd.R_newM (M := fun k_ => (w.heap.size ≤ k_)) ho15 (below_size (bs HB)) (fun k_ h_ => h_)) (below_size (bs HB))); have n2_ := as0 (below_step (bs HB) hb); clear HO_1; clear HB; have HO_1 := n0_; have HO579 := n1_; have HB := n2_; clear n0_ n1_ n2_; clear hb ho15; obtain ⟨Ao16, co16, eo16⟩ := Kd.R_slice HO579.out; subst eo16) | ((with_reducible refine gate_callee (f := 44) rfl ?_); refine goesM_ (some 29) rfl rfl Tryz.func44 #[.int .i64 a0, .slice A1 l1.length c1, .slice Ao16 y577.length co16] rfl ?_; (with_reducible refine (spec_l01Compose.calls kj4 a0 _ _ l1 _ _ y577 t580 _ ?side1 ?side2 ?side3 ?side4 A13.out).mono ?_); (case side1 => exact cs ((Kd.V_reads' HO_1.out).2.2)); (case side2 => exact (Kd.V_reads' HO_1.out).2.1); (case side3 => exact cs ((Kd.R_reads' HO579.out).2.2)); (case side4 => exact (Kd.R_reads' HO579.out).2.1); rintro e w17 ⟨v581, rfl, ho0, hb⟩; refine ⟨_, rfl, ?_⟩; have n0_ := as0 (Kd.V_elder' (by (with_reducible repeat (first | apply Kd.V_alloc | apply Kd.V_drewN | apply Kd.V_drew)); exact HO_1.out) (Kd.R_base ho0) hb); have n1_ := as0 (Kd.R_elder' (rs HO579) (Kd.R_base ho0) hb); have n2_ := as0 (Kd.R_lower (Kd.R_new' (Kd.R_newM (M := fun k_ => (w.heap.size ≤ k_)) ho0 (below_size (bs HB)) (fun k_ h_ => h_)) (Kd.R_lt (rs HO579))) (below_size (bs HB))); have n3_ := as0 (below_step (bs HB) hb); clear HO_1; clear HO579; clear HB; have HO_1 := n0_; have HO579 := n1_; have HO582 := n2_; have HB := n3_; clear n0_ n1_ n2_ n3_; (try clear hb); (try clear hb2); (try clear hk); (try clear hi); (try clear ho0)))
     go_ret2
     exact ⟨_, er_, by (with_reducible repeat (first | apply Kd.R_alloc | apply Kd.R_drewN | apply Kd.R_drew)); exact Kd.R_mono HO582.out (fun _ hk => hk.1.1), bs HB⟩
    ·
     rw [if_neg c12] at H
     have c12b0 : (t575 == 0) = false := beq_eq_false_iff_ne.mpr c12
     have c12b1 : (t575 != 0) = true := bne_iff_ne.mpr c12
     simp only [Option.some.injEq, Prod.mk.injEq] at H
     obtain ⟨rfl, rfl⟩ := H
     go_wp2
     go_ret2
     exact ⟨_, er_, by first | exact Kd.R_nil _ _ _ _ _ | exact Kd.N_nil _ _ _ _ _ | exact Kd.V_nil _ _ _ _ _ | exact Kd.Q_nil _ _ _ _ _ | exact Kd.S_nil _ _ _ _ _, bs HB⟩
def spec_DrawComposePolys.f (k : Nat) (l0 : List Int) : Option (Int × List Int × List Int) := (spec_l01From.f k l0).bind fun bt583 => ((spec_l01Any.f bt583.1 bt583.2.1 bt583.2.2).bind fun bt587 => ((spec_l01Pick.f bt583.1 bt587.2.1 bt587.2.2 (([1, 3, 6] : List Int))).bind fun bt593 => ((spec_l01DrawPoly.f k bt583.1 bt593.2.1 bt593.2.2 (mx bt587.1 1) bt593.1).bind fun bt596 => ((spec_l01Pick.f bt583.1 bt596.2.1 bt596.2.2 (([1, 3, 5] : List Int))).bind fun bt604 => ((spec_l01DrawPoly.f k bt583.1 bt604.2.1 bt604.2.2 (mx bt587.1 1) bt604.1).bind fun bt607 => ((spec_l01Bad.f k bt583.1 bt607.2.1 bt607.2.2 bt587.1 bt596.1).bind fun bt612 => ((spec_l01Bad.f k bt583.1 bt612.2.1 bt612.2.2 bt587.1 bt607.1).bind fun bt617 => (some (bt587.1, bt612.1, bt617.1)))))))))
set_option maxHeartbeats 8000000 in
set_option maxRecDepth 100000 in
theorem spec_DrawComposePolys.calls (k : Nat) (A0 : Option Addr) (c0 : Nat) (l0 : List Int) (r1 : Int) (r2 : List Int) (r3 : List Int) (w : World) (hr0 : Kd.C (Kd.int .u8) w A0 l0.length l0) (hc0 : l0.length ≤ c0) (h : spec_DrawComposePolys.f k l0 = some (r1, r2, r3)) :
  Calls Tryz.prog 13 #[.slice A0 l0.length c0] w fun e w' => ∃ v1_ v2_ : Value, e = .returned (.tuple #[.int .i64 r1, v1_, v2_]) ∧ Kd.R (Kd.int .i64) 2 w' w.heap.size (fun k_ => some k_ ≠ (v2_ : Value).ownBlock) v1_ r2 ∧ Kd.R (Kd.int .i64) 2 w' w.heap.size (fun k_ => some k_ ≠ (v1_ : Value).ownBlock) v2_ r3 ∧ Below w.heap.size w w' := by
 have HR0 := as0 hr0
 have HC0 := as0 hc0
 clear hr0 hc0
 have HB := as0 (Below.refl w.heap.size w)
 have H : ((spec_l01From.f k l0).bind fun bt583 => ((spec_l01Any.f bt583.1 bt583.2.1 bt583.2.2).bind fun bt587 => ((spec_l01Pick.f bt583.1 bt587.2.1 bt587.2.2 (([1, 3, 6] : List Int))).bind fun bt593 => ((spec_l01DrawPoly.f k bt583.1 bt593.2.1 bt593.2.2 (mx bt587.1 1) bt593.1).bind fun bt596 => ((spec_l01Pick.f bt583.1 bt596.2.1 bt596.2.2 (([1, 3, 5] : List Int))).bind fun bt604 => ((spec_l01DrawPoly.f k bt583.1 bt604.2.1 bt604.2.2 (mx bt587.1 1) bt604.1).bind fun bt607 => ((spec_l01Bad.f k bt583.1 bt607.2.1 bt607.2.2 bt587.1 bt596.1).bind fun bt612 => ((spec_l01Bad.f k bt583.1 bt612.2.1 bt612.2.2 bt587.1 bt607.1).bind fun bt617 => (some (bt587.1, bt612.1, bt617.1)))))))))) = some (r1, r2, r3) := h
 clear h
 replace H := Option.bind_eq_some_iff.mp H
 obtain ⟨⟨t583, t584, t585⟩, A20, H⟩ := H
 have A2 := as0 A20
 clear A20
 replace H := Option.bind_eq_some_iff.mp H
 obtain ⟨⟨t587, t588, t589⟩, A30, H⟩ := H
 have A3 := as0 A30
 clear A30
 obtain ⟨ji4, hji4⟩ : ∃ j_ : Int, (mx t587 1) = j_ := ⟨_, rfl⟩
 replace H : ((spec_l01Pick.f t583 t588 t589 (([1, 3, 6] : List Int))).bind fun bt593 => ((spec_l01DrawPoly.f k t583 bt593.2.1 bt593.2.2 (ji4) bt593.1).bind fun bt596 => ((spec_l01Pick.f t583 bt596.2.1 bt596.2.2 (([1, 3, 5] : List Int))).bind fun bt604 => ((spec_l01DrawPoly.f k t583 bt604.2.1 bt604.2.2 (ji4) bt604.1).bind fun bt607 => ((spec_l01Bad.f k t583 bt607.2.1 bt607.2.2 t587 bt596.1).bind fun bt612 => ((spec_l01Bad.f k t583 bt612.2.1 bt612.2.2 t587 bt607.1).bind fun bt617 => (some (t587, bt612.1, bt617.1)))))))) = some (r1, r2, r3) := by first | (rw [hji4] at H; exact H) | (simp only [hji4] at H ⊢; exact H)
 (try rw [hji4] at A2)
 (try rw [hji4] at A3)
 (try (have hji4l : 1 ≤ ji4 := by (rw [← hji4]; unfold mx; (repeat' split) <;> omega)))
 (try (have hji4m : 0 ≤ ji4 := by omega))
 have hji4_ : (if t587 < 1 then 1 else t587) = ji4 := hji4
 obtain ⟨y590, hy590⟩ : ∃ y_ : List Int, y_ = (([1, 3, 6] : List Int)) := ⟨_, rfl⟩
 replace H : ((spec_l01Pick.f t583 t588 t589 y590).bind fun bt593 => ((spec_l01DrawPoly.f k t583 bt593.2.1 bt593.2.2 (ji4) bt593.1).bind fun bt596 => ((spec_l01Pick.f t583 bt596.2.1 bt596.2.2 (([1, 3, 5] : List Int))).bind fun bt604 => ((spec_l01DrawPoly.f k t583 bt604.2.1 bt604.2.2 (ji4) bt604.1).bind fun bt607 => ((spec_l01Bad.f k t583 bt607.2.1 bt607.2.2 t587 bt596.1).bind fun bt612 => ((spec_l01Bad.f k t583 bt612.2.1 bt612.2.2 t587 bt607.1).bind fun bt617 => (some (t587, bt612.1, bt617.1)))))))) = some (r1, r2, r3) := by first | (rw [hy590]; with_reducible exact H) | (have H2_ := (Option.bind_some _ _).symm.trans H; rw [hy590]; with_reducible exact H2_) | (have H2_ := (Option.bind_some _ _).symm.trans H; with_reducible exact H2_) | with_reducible exact H | (rw [hy590]; exact H) | exact H
 have Ny590 := as0 hy590
 clear hy590
 replace H := Option.bind_eq_some_iff.mp H
 obtain ⟨⟨t593, t594, t595⟩, A50, H⟩ := H
 have A5 := as0 A50
 clear A50
 replace H := Option.bind_eq_some_iff.mp H
 obtain ⟨⟨t596, t599, t600⟩, A60, H⟩ := H
 have A6 := as0 A60
 clear A60
 obtain ⟨y601, hy601⟩ : ∃ y_ : List Int, y_ = (([1, 3, 5] : List Int)) := ⟨_, rfl⟩
 replace H : ((spec_l01Pick.f t583 t599 t600 y601).bind fun bt604 => ((spec_l01DrawPoly.f k t583 bt604.2.1 bt604.2.2 (ji4) bt604.1).bind fun bt607 => ((spec_l01Bad.f k t583 bt607.2.1 bt607.2.2 t587 t596).bind fun bt612 => ((spec_l01Bad.f k t583 bt612.2.1 bt612.2.2 t587 bt607.1).bind fun bt617 => (some (t587, bt612.1, bt617.1)))))) = some (r1, r2, r3) := by first | (rw [hy601]; with_reducible exact H) | (have H2_ := (Option.bind_some _ _).symm.trans H; rw [hy601]; with_reducible exact H2_) | (have H2_ := (Option.bind_some _ _).symm.trans H; with_reducible exact H2_) | with_reducible exact H | (rw [hy601]; exact H) | exact H
 have Ny601 := as0 hy601
 clear hy601
 replace H := Option.bind_eq_some_iff.mp H
 obtain ⟨⟨t604, t605, t606⟩, A70, H⟩ := H
 have A7 := as0 A70
 clear A70
 replace H := Option.bind_eq_some_iff.mp H
 obtain ⟨⟨t607, t610, t611⟩, A80, H⟩ := H
 have A8 := as0 A80
 clear A80
 replace H := Option.bind_eq_some_iff.mp H
 obtain ⟨⟨t612, t615, t616⟩, A90, H⟩ := H
 have A9 := as0 A90
 clear A90
 replace H := Option.bind_eq_some_iff.mp H
 obtain ⟨⟨t617, t620, t621⟩, A100, H⟩ := H
 have A10 := as0 A100
 clear A100
 simp only [Option.some.injEq, Prod.mk.injEq] at H
 obtain ⟨rfl, rfl, rfl⟩ := H
 go_enter Tryz.func13, Tryz.ntmps13
 go_wp2_with (first | ((with_reducible refine gate_callee (f := 24) rfl ?_); refine goesM_ (some 11) rfl rfl Tryz.func24 #[.slice A0 l0.length c0] rfl ?_; (with_reducible refine (spec_l01From.calls k _ _ l0 t583 t584 t585 w _ ?side1 ?side2 ?side3 A2.out).mono ?_); (case side1 => exact bs HB); (case side2 => exact HR0.out); (case side3 => exact HC0.out); rintro e w11 ⟨g586, rfl, hi, hb, hb2⟩; refine ⟨_, rfl, ?_⟩; have n0_ := as0 (hb); have n1_ := as0 (hi); clear HB; have HB := n0_; have HI586 := n1_; clear n0_ n1_; (try clear hb); (try clear hb2); (try clear hk); (try clear hi)) | ((with_reducible refine gate_callee (f := 25) rfl ?_); refine goesM_ (some 13) rfl rfl Tryz.func25 #[.pointer (some ⟨g586, 0, none⟩)] rfl ?_; (with_reducible refine (spec_l01Any.calls g586 t583 t584 t585 t587 t588 t589 w _ ?side1 ?side2 A3.out).mono ?_); (case side1 => repeat (first | (with_reducible first | exact HI586.out | apply IsS77.alloc | apply IsS77.drewN | apply IsS77.drew | apply IsS77.set_1 | apply IsS77.set_2) | exact HI586.out)); (case side2 => repeat (first | (with_reducible first | exact HB.out | apply below_alloc | apply pw_below_drewN | apply below_drew1 | refine below_set ?_ (IsS77.ge HI586.out)) | exact HB.out)); rintro e w12 ⟨rfl, hi, hb, hk⟩; refine ⟨_, rfl, ?_⟩; have n0_ := as0 (hb); have n1_ := as0 (hi); clear HB; clear HI586; have HB := n0_; have HI586 := n1_; clear n0_ n1_; (try clear hb); (try clear hb2); (try clear hk); (try clear hi)) | ((with_reducible refine gate_dst (N := 19) rfl ?_); refine Kd.R_lit (Kd.int .i64) _ 2 ?hg (N := 19) ?hd (xs := ([1, 3, 6] : List Int)) (inner := [.int .i64 1, .int .i64 3, .int .i64 6]) (ok := fun _ => True) (okp := fun _ => True) ?hr ?hp (fun _ hk => hk) trivial (Below.refl _ _) (Nat.le_refl _) (by simp) ?_; (case hd => rfl); (case hg => rfl); (case hr => first | (go_simp; done) | (go_simp; rfl)); (case hp => exact (Reps.one (show Kd.M (Kd.int .i64) _ _ _ 1 [.int .i64 1] from rfl) (Reps.one (show Kd.M (Kd.int .i64) _ _ _ 3 [.int .i64 3] from rfl) (Reps.one (show Kd.M (Kd.int .i64) _ _ _ 6 [.int .i64 6] from rfl) (Reps.none _ _))))); intro v591 w13 ho14 hb hg_ hnew_; clear hg_ hnew_; (first | rw [← Ny590.out] at ho14 | (simp only [Int.reduceToNat] at ho14; rw [← Ny590.out] at ho14)); have n0_ := as0 (Kd.R_lower ho14 (below_size (by repeat (first | (with_reducible first | exact HB.out | apply below_alloc | apply pw_below_drewN | apply below_drew1 | refine below_set ?_ (IsS77.ge HI586.out)) | exact HB.out)))); have n1_ := as0 (IsS77.below (by repeat (first | (with_reducible first | exact HI586.out | apply IsS77.alloc | apply IsS77.drewN | apply IsS77.drew | apply IsS77.set_1 | apply IsS77.set_2) | exact HI586.out)) hb); have n2_ := as0 (below_step (by repeat (first | (with_reducible first | exact HB.out | apply below_alloc | apply pw_below_drewN | apply below_drew1 | refine below_set ?_ (IsS77.ge HI586.out)) | exact HB.out)) hb); clear HI586; clear HB; have HO592 := n0_; have HI586 := n1_; have HB := n2_; clear n0_ n1_ n2_; clear hb ho14; obtain ⟨Ao15, co15, eo15⟩ := Kd.R_slice HO592.out; subst eo15) | ((with_reducible refine gate_callee (f := 27) rfl ?_); refine goesM_ (some 20) rfl rfl Tryz.func27 #[.pointer (some ⟨g586, 0, none⟩), .slice Ao15 y590.length co15] rfl ?_; (with_reducible refine (spec_l01Pick.calls g586 t583 t588 t589 _ _ y590 t593 t594 t595 w _ ?side1 ?side2 ?side3 ?side4 ?side5 A5.out).mono ?_); (case side1 => repeat (first | (with_reducible first | exact HI586.out | apply IsS77.alloc | apply IsS77.drewN | apply IsS77.drew | apply IsS77.set_1 | apply IsS77.set_2) | exact HI586.out)); (case side2 => repeat (first | (with_reducible first | exact HB.out | apply below_alloc | apply pw_below_drewN | apply below_drew1 | refine below_set ?_ (IsS77.ge HI586.out)) | exact HB.out)); (case side3 => exact cs ((Kd.R_reads' HO592.out).2.2)); (case side4 => exact (Kd.R_reads' HO592.out).2.1); (case side5 => exact far_slice (IsS77.own_ne HI586.out HO592.out (by decide))); rintro e w16 ⟨rfl, hi, hb, hk⟩; refine ⟨_, rfl, ?_⟩; have n0_ := as0 (Kd.R_mono (Kd.R_keep (IsS77.apart (show IsS77 w _ g586 t583 t588 t589 from by repeat (first | (with_reducible first | exact HI586.out | apply IsS77.alloc | apply IsS77.drewN | apply IsS77.drew | apply IsS77.set_1 | apply IsS77.set_2) | exact HI586.out)) (rs HO592) (by decide)) hk (fun _ h => h.2)) (fun _ h => h.1)); have n1_ := as0 (hb); have n2_ := as0 (hi); clear HO592; clear HB; clear HI586; have HO592 := n0_; have HB := n1_; have HI586 := n2_; clear n0_ n1_ n2_; (try clear hb); (try clear hb2); (try clear hk); (try clear hi)) | ((with_reducible refine gate_callee (f := 45) rfl ?_); refine goesL_ (some 21) rfl rfl Tryz.func45 (by kernel_rfl) rfl #[.pointer (some ⟨g586, 0, none⟩), .int .i64 ji4, .int .i64 t593] rfl (by (try simp only [List.map_toArray, List.map_cons, List.map_nil]); first | done | (simp only [hji4]; rfl) | rfl | (simp only [List.length_drop, List.length_take]; rfl)) ?_; (with_reducible refine (spec_l01DrawPoly.calls k g586 t583 t594 t595 ji4 t593 t596 t599 t600 w _ ?side1 ?side2 A6.out).mono ?_); (case side1 => repeat (first | (with_reducible first | exact HI586.out | apply IsS77.alloc | apply IsS77.drewN | apply IsS77.drew | apply IsS77.set_1 | apply IsS77.set_2) | exact HI586.out)); (case side2 => repeat (first | (with_reducible first | exact HB.out | apply below_alloc | apply pw_below_drewN | apply below_drew1 | refine below_set ?_ (IsS77.ge HI586.out)) | exact HB.out)); rintro e w17 ⟨v597, rfl, ho0, hi, hb, hk⟩; refine ⟨_, rfl, ?_⟩; have n0_ := as0 (Kd.R_mono (Kd.R_told (Kd.R_oldK (IsS77.apart (show IsS77 w _ g586 t583 t594 t595 from by repeat (first | (with_reducible first | exact HI586.out | apply IsS77.alloc | apply IsS77.drewN | apply IsS77.drew | apply IsS77.set_1 | apply IsS77.set_2) | exact HI586.out)) (rs HO592) (by decide)) hk) (Kd.R_base ho0)) (fun _ h_ => h_.1)); have n1_ := as0 (Kd.R_lower (Kd.R_new' ho0 (Kd.R_lt (rs HO592))) (below_size (by repeat (first | (with_reducible first | exact HB.out | apply below_alloc | apply pw_below_drewN | apply below_drew1 | refine below_set ?_ (IsS77.ge HI586.out)) | exact HB.out)))); have n2_ := as0 (hb); have n3_ := as0 (hi); clear HO592; clear HB; clear HI586; have HO592 := n0_; have HO598 := n1_; have HB := n2_; have HI586 := n3_; clear n0_ n1_ n2_ n3_; (try clear hb); (try clear hb2); (try clear hk); (try clear hi); (try clear ho0)) | ((with_reducible refine gate_dst (N := 25) rfl ?_); refine Kd.R_lit (Kd.int .i64) _ 2 ?hg (N := 25) ?hd (xs := ([1, 3, 5] : List Int)) (inner := [.int .i64 1, .int .i64 3, .int .i64 5]) (ok := fun _ => True) (okp := fun _ => True) ?hr ?hp (fun _ hk => hk) trivial (Below.refl _ _) (Nat.le_refl _) (by simp) ?_; (case hd => rfl); (case hg => rfl); (case hr => first | (go_simp; done) | (go_simp; rfl)); (case hp => exact (Reps.one (show Kd.M (Kd.int .i64) _ _ _ 1 [.int .i64 1] from rfl) (Reps.one (show Kd.M (Kd.int .i64) _ _ _ 3 [.int .i64 3] from rfl) (Reps.one (show Kd.M (Kd.int .i64) _ _ _ 5 [.int .i64 5] from rfl) (Reps.none _ _))))); intro v602 w18 ho19 hb hg_ hnew_; clear hg_ hnew_; (first | rw [← Ny601.out] at ho19 | (simp only [Int.reduceToNat] at ho19; rw [← Ny601.out] at ho19)); have n0_ := as0 (Kd.R_elder' (rs HO592) (Kd.R_base ho19) hb); have n1_ := as0 (Kd.R_elder' (rs HO598) (Kd.R_base ho19) hb); have n2_ := as0 (Kd.R_lower (Kd.R_new' (Kd.R_new' ho19 (Kd.R_lt (rs HO592))) (Kd.R_lt (rs HO598))) (below_size (by repeat (first | (with_reducible first | exact HB.out | apply below_alloc | apply pw_below_drewN | apply below_drew1 | refine below_set ?_ (IsS77.ge HI586.out)) | exact HB.out)))); have n3_ := as0 (IsS77.below (by repeat (first | (with_reducible first | exact HI586.out | apply IsS77.alloc | apply IsS77.drewN | apply IsS77.drew | apply IsS77.set_1 | apply IsS77.set_2) | exact HI586.out)) hb); have n4_ := as0 (below_step (by repeat (first | (with_reducible first | exact HB.out | apply below_alloc | apply pw_below_drewN | apply below_drew1 | refine below_set ?_ (IsS77.ge HI586.out)) | exact HB.out)) hb); clear HO592; clear HO598; clear HI586; clear HB; have HO592 := n0_; have HO598 := n1_; have HO603 := n2_; have HI586 := n3_; have HB := n4_; clear n0_ n1_ n2_ n3_ n4_; clear hb ho19; obtain ⟨Ao20, co20, eo20⟩ := Kd.R_slice HO603.out; subst eo20) | ((with_reducible refine gate_callee (f := 27) rfl ?_); refine goesM_ (some 26) rfl rfl Tryz.func27 #[.pointer (some ⟨g586, 0, none⟩), .slice Ao20 y601.length co20] rfl ?_; (with_reducible refine (spec_l01Pick.calls g586 t583 t599 t600 _ _ y601 t604 t605 t606 w _ ?side1 ?side2 ?side3 ?side4 ?side5 A7.out).mono ?_); (case side1 => repeat (first | (with_reducible first | exact HI586.out | apply IsS77.alloc | apply IsS77.drewN | apply IsS77.drew | apply IsS77.set_1 | apply IsS77.set_2) | exact HI586.out)); (case side2 => repeat (first | (with_reducible first | exact HB.out | apply below_alloc | apply pw_below_drewN | apply below_drew1 | refine below_set ?_ (IsS77.ge HI586.out)) | exact HB.out)); (case side3 => exact cs ((Kd.R_reads' HO603.out).2.2)); (case side4 => exact (Kd.R_reads' HO603.out).2.1); (case side5 => exact far_slice (IsS77.own_ne HI586.out HO603.out (by decide))); rintro e w21 ⟨rfl, hi, hb, hk⟩; refine ⟨_, rfl, ?_⟩; have n0_ := as0 (Kd.R_mono (Kd.R_keep (IsS77.apart (show IsS77 w _ g586 t583 t599 t600 from by repeat (first | (with_reducible first | exact HI586.out | apply IsS77.alloc | apply IsS77.drewN | apply IsS77.drew | apply IsS77.set_1 | apply IsS77.set_2) | exact HI586.out)) (rs HO592) (by decide)) hk (fun _ h => h.2)) (fun _ h => h.1)); have n1_ := as0 (Kd.R_mono (Kd.R_keep (IsS77.apart (show IsS77 w _ g586 t583 t599 t600 from by repeat (first | (with_reducible first | exact HI586.out | apply IsS77.alloc | apply IsS77.drewN | apply IsS77.drew | apply IsS77.set_1 | apply IsS77.set_2) | exact HI586.out)) (rs HO598) (by decide)) hk (fun _ h => h.2)) (fun _ h => h.1)); have n2_ := as0 (Kd.R_mono (Kd.R_keep (IsS77.apart (show IsS77 w _ g586 t583 t599 t600 from by repeat (first | (with_reducible first | exact HI586.out | apply IsS77.alloc | apply IsS77.drewN | apply IsS77.drew | apply IsS77.set_1 | apply IsS77.set_2) | exact HI586.out)) (rs HO603) (by decide)) hk (fun _ h => h.2)) (fun _ h => h.1)); have n3_ := as0 (hb); have n4_ := as0 (hi); clear HO592; clear HO598; clear HO603; clear HB; clear HI586; have HO592 := n0_; have HO598 := n1_; have HO603 := n2_; have HB := n3_; have HI586 := n4_; clear n0_ n1_ n2_ n3_ n4_; (try clear hb); (try clear hb2); (try clear hk); (try clear hi)) | ((with_reducible refine gate_callee (f := 45) rfl ?_); refine goesL_ (some 27) rfl rfl Tryz.func45 (by kernel_rfl) rfl #[.pointer (some ⟨g586, 0, none⟩), .int .i64 ji4, .int .i64 t604] rfl (by (try simp only [List.map_toArray, List.map_cons, List.map_nil]); first | done | (simp only [hji4]; rfl) | rfl | (simp only [List.length_drop, List.length_take]; rfl)) ?_; (with_reducible refine (spec_l01DrawPoly.calls k g586 t583 t605 t606 ji4 t604 t607 t610 t611 w _ ?side1 ?side2 A8.out).mono ?_); (case side1 => repeat (first | (with_reducible first | exact HI586.out | apply IsS77.alloc | apply IsS77.drewN | apply IsS77.drew | apply IsS77.set_1 | apply IsS77.set_2) | exact HI586.out)); (case side2 => repeat (first | (with_reducible first | exact HB.out | apply below_alloc | apply pw_below_drewN | apply below_drew1 | refine below_set ?_ (IsS77.ge HI586.out)) | exact HB.out)); rintro e w22 ⟨v608, rfl, ho0, hi, hb, hk⟩; refine ⟨_, rfl, ?_⟩; have n0_ := as0 (Kd.R_mono (Kd.R_told (Kd.R_oldK (IsS77.apart (show IsS77 w _ g586 t583 t605 t606 from by repeat (first | (with_reducible first | exact HI586.out | apply IsS77.alloc | apply IsS77.drewN | apply IsS77.drew | apply IsS77.set_1 | apply IsS77.set_2) | exact HI586.out)) (rs HO592) (by decide)) hk) (Kd.R_base ho0)) (fun _ h_ => h_.1)); have n1_ := as0 (Kd.R_mono (Kd.R_told (Kd.R_oldK (IsS77.apart (show IsS77 w _ g586 t583 t605 t606 from by repeat (first | (with_reducible first | exact HI586.out | apply IsS77.alloc | apply IsS77.drewN | apply IsS77.drew | apply IsS77.set_1 | apply IsS77.set_2) | exact HI586.out)) (rs HO598) (by decide)) hk) (Kd.R_base ho0)) (fun _ h_ => h_.1)); have n2_ := as0 (Kd.R_mono (Kd.R_told (Kd.R_oldK (IsS77.apart (show IsS77 w _ g586 t583 t605 t606 from by repeat (first | (with_reducible first | exact HI586.out | apply IsS77.alloc | apply IsS77.drewN | apply IsS77.drew | apply IsS77.set_1 | apply IsS77.set_2) | exact HI586.out)) (rs HO603) (by decide)) hk) (Kd.R_base ho0)) (fun _ h_ => h_.1)); have n3_ := as0 (Kd.R_lower (Kd.R_new' (Kd.R_new' (Kd.R_new' ho0 (Kd.R_lt (rs HO592))) (Kd.R_lt (rs HO598))) (Kd.R_lt (rs HO603))) (below_size (by repeat (first | (with_reducible first | exact HB.out | apply below_alloc | apply pw_below_drewN | apply below_drew1 | refine below_set ?_ (IsS77.ge HI586.out)) | exact HB.out)))); have n4_ := as0 (hb); have n5_ := as0 (hi); clear HO592; clear HO598; clear HO603; clear HB; clear HI586; have HO592 := n0_; have HO598 := n1_; have HO603 := n2_; have HO609 := n3_; have HB := n4_; have HI586 := n5_; clear n0_ n1_ n2_ n3_ n4_ n5_; (try clear hb); (try clear hb2); (try clear hk); (try clear hi); (try clear ho0); obtain ⟨Ao23, co23, eo23⟩ := Kd.R_slice HO598.out; subst eo23) | ((with_reducible refine gate_callee (f := 46) rfl ?_); refine goesM_ (some 32) rfl rfl Tryz.func46 #[.pointer (some ⟨g586, 0, none⟩), .int .i64 t587, .slice Ao23 t596.length co23] rfl ?_; (with_reducible refine (spec_l01Bad.calls k g586 t583 t610 t611 t587 (fun k_ => some k_ = (.slice Ao23 t596.length co23 : Value).ownBlock) (.slice Ao23 t596.length co23) t596 t612 t615 t616 w _ ?side1 ?side2 ?side3 A9.out).mono ?_); (case side1 => repeat (first | (with_reducible first | exact HI586.out | apply IsS77.alloc | apply IsS77.drewN | apply IsS77.drew | apply IsS77.set_1 | apply IsS77.set_2) | exact HI586.out)); (case side2 => repeat (first | (with_reducible first | exact HB.out | apply below_alloc | apply pw_below_drewN | apply below_drew1 | refine below_set ?_ (IsS77.ge HI586.out)) | exact HB.out)); (case side3 => exact Kd.R_tight rfl HO598.out); rintro e w24 ⟨v613, rfl, ho0, hi, hb, hkp⟩; refine ⟨_, rfl, ?_⟩; have n0_ := as0 (hi); have n1_ := as0 (Kd.R_mono (ok' := fun k_ => some k_ ≠ (.slice Ao20 y601.length co20 : Value).ownBlock ∧ some k_ ≠ (v608 : Value).ownBlock ∧ some k_ ≠ (v613 : Value).ownBlock) (Kd.R_keptB ((IsS77.apart HI586.out HO592.out (by decide))) hkp (fun k_ hk_ hs_ => Or.elim hs_ (fun hs_ => (hk_.1.1.1.2) hs_) (fun e_ => (hk_.2) e_))) (fun k_ hk_ => ⟨hk_.1.1.1.2, hk_.1.1.2, fun e_ => Or.elim (ho0.1 k_ e_.symm) (fun hs_ => hk_.2.1 (by first | exact hs_ | exact .inl hs_)) (fun hn_ => Nat.not_le.2 hk_.2.2 hn_)⟩)); have n2_ := as0 (Kd.R_mono (ok' := fun k_ => some k_ ≠ (.slice Ao15 y590.length co15 : Value).ownBlock ∧ some k_ ≠ (v608 : Value).ownBlock ∧ some k_ ≠ (v613 : Value).ownBlock) (Kd.R_keptB ((IsS77.apart HI586.out HO603.out (by decide))) hkp (fun k_ hk_ hs_ => Or.elim hs_ (fun hs_ => (hk_.1.1.2) hs_) (fun e_ => (hk_.2) e_))) (fun k_ hk_ => ⟨hk_.1.1.1.1.2, hk_.1.1.2, fun e_ => Or.elim (ho0.1 k_ e_.symm) (fun hs_ => hk_.2.1 (by first | exact hs_ | exact .inl hs_)) (fun hn_ => Nat.not_le.2 hk_.2.2 hn_)⟩)); have n3_ := as0 (Kd.R_mono (ok' := fun k_ => some k_ ≠ (.slice Ao15 y590.length co15 : Value).ownBlock ∧ some k_ ≠ (.slice Ao20 y601.length co20 : Value).ownBlock ∧ some k_ ≠ (v613 : Value).ownBlock) (Kd.R_keptB ((IsS77.apart HI586.out HO609.out (by decide))) hkp (fun k_ hk_ hs_ => Or.elim hs_ (fun hs_ => (hk_.1.1.2) hs_) (fun e_ => (hk_.2) e_))) (fun k_ hk_ => ⟨hk_.1.1.1.1.2, hk_.1.1.2, fun e_ => Or.elim (ho0.1 k_ e_.symm) (fun hs_ => hk_.2.1 (by first | exact hs_ | exact .inl hs_)) (fun hn_ => Nat.not_le.2 hk_.2.2 hn_)⟩)); have n4_ := as0 (Kd.R_mono (ok' := fun k_ => some k_ ≠ (.slice Ao15 y590.length co15 : Value).ownBlock ∧ some k_ ≠ (.slice Ao20 y601.length co20 : Value).ownBlock ∧ some k_ ≠ (v608 : Value).ownBlock) ho0 (fun k_ hk_ => ⟨Or.elim hk_ (fun hs_ => fun e_ => ((((IsS77.apart HI586.out HO592.out (by decide))).1 k_ e_.symm).1.1.1.2) hs_) (fun hn_ => (Kd.fresh' (Kd.R_lt (rs HO592)) k_ hn_)), Or.elim hk_ (fun hs_ => fun e_ => ((((IsS77.apart HI586.out HO603.out (by decide))).1 k_ e_.symm).1.1.2) hs_) (fun hn_ => (Kd.fresh' (Kd.R_lt (rs HO603)) k_ hn_)), Or.elim hk_ (fun hs_ => fun e_ => ((((IsS77.apart HI586.out HO609.out (by decide))).1 k_ e_.symm).1.1.2) hs_) (fun hn_ => (Kd.fresh' (Kd.R_lt (rs HO609)) k_ hn_))⟩)); have n5_ := as0 (hb); clear HI586; clear HO592; clear HO603; clear HO609; clear HB; clear HO598; have HI586 := n0_; have HO592 := n1_; have HO603 := n2_; have HO609 := n3_; have HO614 := n4_; have HB := n5_; clear n0_ n1_ n2_ n3_ n4_ n5_; (try clear hb); (try clear hkp); (try clear ho0); obtain ⟨Ao25, co25, eo25⟩ := Kd.R_slice HO609.out; subst eo25) | ((with_reducible refine gate_callee (f := 46) rfl ?_); refine goesM_ (some 36) rfl rfl Tryz.func46 #[.pointer (some ⟨g586, 0, none⟩), .int .i64 t587, .slice Ao25 t607.length co25] rfl ?_; (with_reducible refine (spec_l01Bad.calls k g586 t583 t615 t616 t587 (fun k_ => some k_ = (.slice Ao25 t607.length co25 : Value).ownBlock) (.slice Ao25 t607.length co25) t607 t617 t620 t621 w _ ?side1 ?side2 ?side3 A10.out).mono ?_); (case side1 => repeat (first | (with_reducible first | exact HI586.out | apply IsS77.alloc | apply IsS77.drewN | apply IsS77.drew | apply IsS77.set_1 | apply IsS77.set_2) | exact HI586.out)); (case side2 => repeat (first | (with_reducible first | exact HB.out | apply below_alloc | apply pw_below_drewN | apply below_drew1 | refine below_set ?_ (IsS77.ge HI586.out)) | exact HB.out)); (case side3 => exact Kd.R_tight rfl HO609.out); rintro e w26 ⟨v618, rfl, ho0, hi, hb, hkp⟩; refine ⟨_, rfl, ?_⟩; have n0_ := as0 (hi); have n1_ := as0 (Kd.R_mono (ok' := fun k_ => some k_ ≠ (.slice Ao20 y601.length co20 : Value).ownBlock ∧ some k_ ≠ (v613 : Value).ownBlock ∧ some k_ ≠ (v618 : Value).ownBlock) (Kd.R_keptB ((IsS77.apart HI586.out HO592.out (by decide))) hkp (fun k_ hk_ hs_ => Or.elim hs_ (fun hs_ => (hk_.1.2.1) hs_) (fun e_ => (hk_.2) e_))) (fun k_ hk_ => ⟨hk_.1.1.1, hk_.1.1.2.2, fun e_ => Or.elim (ho0.1 k_ e_.symm) (fun hs_ => hk_.2.1 (by first | exact hs_ | exact .inl hs_)) (fun hn_ => Nat.not_le.2 hk_.2.2 hn_)⟩)); have n2_ := as0 (Kd.R_mono (ok' := fun k_ => some k_ ≠ (.slice Ao15 y590.length co15 : Value).ownBlock ∧ some k_ ≠ (v613 : Value).ownBlock ∧ some k_ ≠ (v618 : Value).ownBlock) (Kd.R_keptB ((IsS77.apart HI586.out HO603.out (by decide))) hkp (fun k_ hk_ hs_ => Or.elim hs_ (fun hs_ => (hk_.1.2.1) hs_) (fun e_ => (hk_.2) e_))) (fun k_ hk_ => ⟨hk_.1.1.1, hk_.1.1.2.2, fun e_ => Or.elim (ho0.1 k_ e_.symm) (fun hs_ => hk_.2.1 (by first | exact hs_ | exact .inl hs_)) (fun hn_ => Nat.not_le.2 hk_.2.2 hn_)⟩)); have n3_ := as0 (Kd.R_mono (ok' := fun k_ => some k_ ≠ (.slice Ao15 y590.length co15 : Value).ownBlock ∧ some k_ ≠ (.slice Ao20 y601.length co20 : Value).ownBlock ∧ some k_ ≠ (v618 : Value).ownBlock) (Kd.R_keptB ((IsS77.apart HI586.out HO614.out (by decide))) hkp (fun k_ hk_ hs_ => Or.elim hs_ (fun hs_ => (hk_.1.2.2) hs_) (fun e_ => (hk_.2) e_))) (fun k_ hk_ => ⟨hk_.1.1.1, hk_.1.1.2.1, fun e_ => Or.elim (ho0.1 k_ e_.symm) (fun hs_ => hk_.2.1 (by first | exact hs_ | exact .inl hs_)) (fun hn_ => Nat.not_le.2 hk_.2.2 hn_)⟩)); have n4_ := as0 (Kd.R_mono (ok' := fun k_ => some k_ ≠ (.slice Ao15 y590.length co15 : Value).ownBlock ∧ some k_ ≠ (.slice Ao20 y601.length co20 : Value).ownBlock ∧ some k_ ≠ (v613 : Value).ownBlock) ho0 (fun k_ hk_ => ⟨Or.elim hk_ (fun hs_ => fun e_ => ((((IsS77.apart HI586.out HO592.out (by decide))).1 k_ e_.symm).1.2.1) hs_) (fun hn_ => (Kd.fresh' (Kd.R_lt (rs HO592)) k_ hn_)), Or.elim hk_ (fun hs_ => fun e_ => ((((IsS77.apart HI586.out HO603.out (by decide))).1 k_ e_.symm).1.2.1) hs_) (fun hn_ => (Kd.fresh' (Kd.R_lt (rs HO603)) k_ hn_)), Or.elim hk_ (fun hs_ => fun e_ => ((((IsS77.apart HI586.out HO614.out (by decide))).1 k_ e_.symm).1.2.2) hs_) (fun hn_ => (Kd.fresh' (Kd.R_lt (rs HO614)) k_ hn_))⟩)); have n5_ := as0 (hb); clear HI586; clear HO592; clear HO603; clear HO614; clear HB; clear HO609; have HI586 := n0_; have HO592 := n1_; have HO603 := n2_; have HO614 := n3_; have HO619 := n4_; have HB := n5_; clear n0_ n1_ n2_ n3_ n4_ n5_; (try clear hb); (try clear hkp); (try clear ho0)))
 go_ret3
 exact ⟨_, _, by first | rfl | (simp [errW_none, errW_some] <;> rfl) | (simp only [← hji4]; first | rfl | (simp [errW_none, errW_some] <;> rfl)) | (simp [*, errW_none, errW_some] <;> rfl), by (with_reducible repeat (first | apply Kd.R_alloc | apply Kd.R_drewN | apply Kd.R_drew)); exact Kd.R_mono HO614.out (fun _ hk => hk.2.2), by (with_reducible repeat (first | apply Kd.R_alloc | apply Kd.R_drewN | apply Kd.R_drew)); exact Kd.R_mono HO619.out (fun _ hk => hk.2.2), by repeat (first | (with_reducible first | exact HB.out | apply below_alloc | apply pw_below_drewN | apply below_drew1 | refine below_set ?_ (IsS77.ge HI586.out)) | exact HB.out)⟩
def impl_length_int64.f (l0 : List Int) : Option (Int) := some (l0.length : Int)
set_option maxHeartbeats 8000000 in
set_option maxRecDepth 100000 in
theorem impl_length_int64.calls (A0 : Option Addr) (c0 : Nat) (l0 : List Int) (r : Int) (w : World) (hr0 : Kd.C (Kd.int .i64) w A0 l0.length l0) (hc0 : l0.length ≤ c0) (h : impl_length_int64.f l0 = some r) :
  Calls Tryz.prog 76 #[.slice A0 l0.length c0] w fun e w' => e = .returned (.int .i64 r) ∧ Drawn0 w w' := by
 have HR0 := as0 hr0
 have HC0 := as0 hc0
 clear hr0 hc0
 have H : (some (l0.length : Int)) = some r := h
 clear h
 obtain rfl := Option.some.inj H
 go_enter Tryz.func76, Tryz.ntmps76
 go_wp2
 go_ret
 exact ⟨ea_, dr_⟩
def impl_degree.f (l0 : List Int) : Option (Int) := (impl_length_int64.f l0).bind fun t622 => (some (wrap64 (t622 - 1)))
set_option maxHeartbeats 8000000 in
set_option maxRecDepth 100000 in
theorem impl_degree.calls (A0 : Option Addr) (c0 : Nat) (l0 : List Int) (r : Int) (w : World) (hr0 : Kd.C (Kd.int .i64) w A0 l0.length l0) (hc0 : l0.length ≤ c0) (h : impl_degree.f l0 = some r) :
  Calls Tryz.prog 48 #[.slice A0 l0.length c0] w fun e w' => e = .returned (.int .i64 r) ∧ Drawn0 w w' := by
 have HR0 := as0 hr0
 have HC0 := as0 hc0
 clear hr0 hc0
 have H : ((impl_length_int64.f l0).bind fun t622 => (some (wrap64 (t622 - 1)))) = some r := h
 clear h
 replace H := Option.bind_eq_some_iff.mp H
 obtain ⟨t622, A20, H⟩ := H
 have A2 := as0 A20
 clear A20
 obtain rfl := Option.some.inj H
 go_enter Tryz.func48, Tryz.ntmps48
 go_wp2_with (first | ((with_reducible refine gate_callee (f := 76) rfl ?_); refine goesM_ (some 4) rfl rfl Tryz.func76 #[.slice A0 l0.length c0] rfl ?_; (with_reducible refine (impl_length_int64.calls _ _ l0 t622 _ ?side1 ?side2 A2.out).mono ?_); (case side1 => exact cs (HR0.out)); (case side2 => exact HC0.out); rintro e w' ⟨rfl, ⟨nd, rfl⟩⟩; refine ⟨_, rfl, ?_⟩))
 go_ret
 exact ⟨ea_, dr_⟩
def impl_ComposePolys.f (k : Nat) (a0 : Int) (l1 : List Int) (l2 : List Int) : Option (List Int × Int) := (impl_polyCode_2.f k a0 true l1 l2).bind fun t623 => (if t623 = 0 then ((impl_degree.f l1).bind fun t624 => (if t624 > 0 then ((impl_degree.f l2).bind fun t625 => (if t625 > 0 then ((impl_degree.f l1).bind fun t626 => ((impl_degree.f l2).bind fun t627 => (if (wrap64 (t626 * t627)) > 24 then (some (([] : List Int), 3)) else ((impl_field_compose.f a0 l1 l2).bind fun t628 => (some (t628, 0)))))) else ((impl_field_compose.f a0 l1 l2).bind fun t631 => (some (t631, 0))))) else ((impl_field_compose.f a0 l1 l2).bind fun t634 => (some (t634, 0))))) else (some (([] : List Int), t623)))
set_option maxHeartbeats 8000000 in
set_option maxRecDepth 100000 in
theorem impl_ComposePolys.calls (k : Nat) (a0 : Int) (A1 : Option Addr) (c1 : Nat) (l1 : List Int) (A2 : Option Addr) (c2 : Nat) (l2 : List Int) (r1 : List Int) (r2 : Int) (w : World) (hr1 : Kd.C (Kd.int .i64) w A1 l1.length l1) (hc1 : l1.length ≤ c1) (hr2 : Kd.C (Kd.int .i64) w A2 l2.length l2) (hc2 : l2.length ≤ c2) (h : impl_ComposePolys.f k a0 l1 l2 = some (r1, r2)) :
  Calls Tryz.prog 14 #[.int .i64 a0, .slice A1 l1.length c1, .slice A2 l2.length c2] w fun e w' => ∃ v0_ : Value, e = .returned (.tuple #[v0_, .int .i64 r2]) ∧ Kd.R (Kd.int .i64) 2 w' w.heap.size (fun _ => True) v0_ r1 ∧ Below w.heap.size w w' := by
 have HR1 := as0 hr1
 have HC1 := as0 hc1
 clear hr1 hc1
 have HR2 := as0 hr2
 have HC2 := as0 hc2
 clear hr2 hc2
 have HB := as0 (Below.refl w.heap.size w)
 have H : ((impl_polyCode_2.f k a0 true l1 l2).bind fun t623 => (if t623 = 0 then ((impl_degree.f l1).bind fun t624 => (if t624 > 0 then ((impl_degree.f l2).bind fun t625 => (if t625 > 0 then ((impl_degree.f l1).bind fun t624 => ((impl_degree.f l2).bind fun t625 => (if (wrap64 (t624 * t625)) > 24 then (some (([] : List Int), 3)) else ((impl_field_compose.f a0 l1 l2).bind fun t628 => (some (t628, 0)))))) else ((impl_field_compose.f a0 l1 l2).bind fun t631 => (some (t631, 0))))) else ((impl_field_compose.f a0 l1 l2).bind fun t634 => (some (t634, 0))))) else (some (([] : List Int), t623)))) = some (r1, r2) := h
 clear h
 replace H := Option.bind_eq_some_iff.mp H
 obtain ⟨t623, A40, H⟩ := H
 have A4 := as0 A40
 clear A40
 by_cases c5 : t623 = 0
 ·
  rw [if_pos c5] at H
  have c5b0 : (t623 == 0) = true := beq_iff_eq.mpr c5
  have c5b1 : (t623 != 0) = false := bne_eq_false_iff_eq.mpr c5
  clear c5
  replace H := Option.bind_eq_some_iff.mp H
  obtain ⟨t624, A60, H⟩ := H
  have A6 := as0 A60
  clear A60
  by_cases c7 : t624 > 0
  ·
   rw [if_pos c7] at H
   have c7b0 : decide (0 < t624) = true := decide_eq_true c7
   clear c7
   replace H := Option.bind_eq_some_iff.mp H
   obtain ⟨t625, A80, H⟩ := H
   have A8 := as0 A80
   clear A80
   by_cases c9 : t625 > 0
   ·
    rw [if_pos c9] at H
    have c9b0 : decide (0 < t625) = true := decide_eq_true c9
    clear c9
    simp only [A6.out, Option.bind_some] at H
    simp only [A8.out, Option.bind_some] at H
    by_cases c12 : (wrap64 (t624 * t625)) > 24
    ·
     rw [if_pos c12] at H
     have c12b0 : decide (24 < (wrap64 (t624 * t625))) = true := decide_eq_true c12
     clear c12
     simp only [Option.some.injEq, Prod.mk.injEq] at H
     obtain ⟨rfl, rfl⟩ := H
     go_enter Tryz.func14, Tryz.ntmps14
     go_wp2_with (first | (go_at_call 34; (with_reducible refine (impl_polyCode_2.calls k a0 true A1 c1 l1 A2 c2 l2 t623 _ ?side1 ?side2 ?side3 ?side4 A4.out ?sideE ?sideG ?sideP ?sideQ).mono ?_); (case side1 => exact cs (HR1.out)); (case side2 => exact HC1.out); (case side3 => exact cs (HR2.out)); (case side4 => exact HC2.out); (case sideE => (first | exact enters_of Tryz.func47 (by kernel_rfl) rfl)); (case sideG => (first | exact always_gives _)); (case sideP => (first | (simp; done) | (simp [*]; done))); (case sideQ => (first | (simp; done) | (simp [*]; done))); rintro e w13 ⟨rfl, hb⟩; have n0_ := as0 (below_step (bs HB) hb); clear HB; have HB := n0_; clear n0_; (try clear hb); (try clear hb2); (try clear hk); (try clear hi)) | ((with_reducible refine gate_callee (f := 48) rfl ?_); refine goesM_ (some 18) rfl rfl Tryz.func48 #[.slice A1 l1.length c1] rfl ?_; (with_reducible refine (impl_degree.calls _ _ l1 t624 _ ?side1 ?side2 A6.out).mono ?_); (case side1 => exact cs ((Kd.C_below HR1.out HB.out))); (case side2 => exact HC1.out); rintro e w' ⟨rfl, ⟨nd, rfl⟩⟩; refine ⟨_, rfl, ?_⟩) | (go_at_call 48; (with_reducible refine (impl_degree.calls _ _ l2 t625 _ ?side1 ?side2 A8.out).mono ?_); (case side1 => exact cs (Kd.C_below HR2.out HB.out)); (case side2 => exact HC2.out); rintro e w' ⟨rfl, ⟨nd, rfl⟩⟩) | (go_at_call 48; (with_reducible refine (impl_degree.calls _ _ l1 t624 _ ?side1 ?side2 A6.out).mono ?_); (case side1 => exact cs (Kd.C_below HR1.out HB.out)); (case side2 => exact HC1.out); rintro e w' ⟨rfl, ⟨nd, rfl⟩⟩) | (go_at_call 48; (with_reducible refine (impl_degree.calls _ _ l2 t625 _ ?side1 ?side2 A8.out).mono ?_); (case side1 => exact cs (Kd.C_below HR2.out HB.out)); (case side2 => exact HC2.out); rintro e w' ⟨rfl, ⟨nd, rfl⟩⟩))
     go_ret2
     exact ⟨_, er_, by first | exact Kd.R_nil _ _ _ _ _ | exact Kd.N_nil _ _ _ _ _ | exact Kd.V_nil _ _ _ _ _ | exact Kd.Q_nil _ _ _ _ _ | exact Kd.S_nil _ _ _ _ _, bs HB⟩
    ·
     rw [if_neg c12] at H
     have c12b0 : decide (24 < (wrap64 (t624 * t625))) = false := decide_eq_false c12
     clear c12
     replace H := Option.bind_eq_some_iff.mp H
     obtain ⟨t628, A140, H⟩ := H
     have A14 := as0 A140
     clear A140
     simp only [Option.some.injEq, Prod.mk.injEq] at H
     obtain ⟨rfl, rfl⟩ := H
     go_enter Tryz.func14, Tryz.ntmps14
     go_wp2_with (first | (go_at_call 34; (with_reducible refine (impl_polyCode_2.calls k a0 true A1 c1 l1 A2 c2 l2 t623 _ ?side1 ?side2 ?side3 ?side4 A4.out ?sideE ?sideG ?sideP ?sideQ).mono ?_); (case side1 => exact cs (HR1.out)); (case side2 => exact HC1.out); (case side3 => exact cs (HR2.out)); (case side4 => exact HC2.out); (case sideE => (first | exact enters_of Tryz.func47 (by kernel_rfl) rfl)); (case sideG => (first | exact always_gives _)); (case sideP => (first | (simp; done) | (simp [*]; done))); (case sideQ => (first | (simp; done) | (simp [*]; done))); rintro e w15 ⟨rfl, hb⟩; have n0_ := as0 (below_step (bs HB) hb); clear HB; have HB := n0_; clear n0_; (try clear hb); (try clear hb2); (try clear hk); (try clear hi)) | ((with_reducible refine gate_callee (f := 48) rfl ?_); refine goesM_ (some 18) rfl rfl Tryz.func48 #[.slice A1 l1.length c1] rfl ?_; (with_reducible refine (impl_degree.calls _ _ l1 t624 _ ?side1 ?side2 A6.out).mono ?_); (case side1 => exact cs ((Kd.C_below HR1.out HB.out))); (case side2 => exact HC1.out); rintro e w' ⟨rfl, ⟨nd, rfl⟩⟩; refine ⟨_, rfl, ?_⟩) | (go_at_call 48; (with_reducible refine (impl_degree.calls _ _ l2 t625 _ ?side1 ?side2 A8.out).mono ?_); (case side1 => exact cs (Kd.C_below HR2.out HB.out)); (case side2 => exact HC2.out); rintro e w' ⟨rfl, ⟨nd, rfl⟩⟩) | (go_at_call 48; (with_reducible refine (impl_degree.calls _ _ l1 t624 _ ?side1 ?side2 A6.out).mono ?_); (case side1 => exact cs (Kd.C_below HR1.out HB.out)); (case side2 => exact HC1.out); rintro e w' ⟨rfl, ⟨nd, rfl⟩⟩) | (go_at_call 48; (with_reducible refine (impl_degree.calls _ _ l2 t625 _ ?side1 ?side2 A8.out).mono ?_); (case side1 => exact cs (Kd.C_below HR2.out HB.out)); (case side2 => exact HC2.out); rintro e w' ⟨rfl, ⟨nd, rfl⟩⟩) | ((with_reducible refine gate_callee (f := 41) rfl ?_); refine goesM_ (some 36) rfl rfl Tryz.func41 #[.int .i64 a0, .slice A1 l1.length c1, .slice A2 l2.length c2] rfl ?_; (with_reducible refine (impl_field_compose.calls a0 _ _ l1 _ _ l2 t628 _ ?side1 ?side2 ?side3 ?side4 A14.out).mono ?_); (case side1 => exact cs (Kd.C_below HR1.out HB.out)); (case side2 => exact HC1.out); (case side3 => exact cs (Kd.C_below HR2.out HB.out)); (case side4 => exact HC2.out); rintro e w16 ⟨v629, rfl, ho0, hb⟩; refine ⟨_, rfl, ?_⟩; have n0_ := as0 (Kd.R_lower ho0 (below_size (bs HB))); have n1_ := as0 (below_step (bs HB) hb); clear HB; have HO630 := n0_; have HB := n1_; clear n0_ n1_; (try clear hb); (try clear hb2); (try clear hk); (try clear hi); (try clear ho0)))
     go_ret2
     exact ⟨_, er_, rs HO630, bs HB⟩
   ·
    rw [if_neg c9] at H
    have c9b0 : decide (0 < t625) = false := decide_eq_false c9
    clear c9
    replace H := Option.bind_eq_some_iff.mp H
    obtain ⟨t631, A170, H⟩ := H
    have A17 := as0 A170
    clear A170
    simp only [Option.some.injEq, Prod.mk.injEq] at H
    obtain ⟨rfl, rfl⟩ := H
    go_enter Tryz.func14, Tryz.ntmps14
    go_wp2_with (first | (go_at_call 34; (with_reducible refine (impl_polyCode_2.calls k a0 true A1 c1 l1 A2 c2 l2 t623 _ ?side1 ?side2 ?side3 ?side4 A4.out ?sideE ?sideG ?sideP ?sideQ).mono ?_); (case side1 => exact cs (HR1.out)); (case side2 => exact HC1.out); (case side3 => exact cs (HR2.out)); (case side4 => exact HC2.out); (case sideE => (first | exact enters_of Tryz.func47 (by kernel_rfl) rfl)); (case sideG => (first | exact always_gives _)); (case sideP => (first | (simp; done) | (simp [*]; done))); (case sideQ => (first | (simp; done) | (simp [*]; done))); rintro e w18 ⟨rfl, hb⟩; have n0_ := as0 (below_step (bs HB) hb); clear HB; have HB := n0_; clear n0_; (try clear hb); (try clear hb2); (try clear hk); (try clear hi)) | ((with_reducible refine gate_callee (f := 48) rfl ?_); refine goesM_ (some 18) rfl rfl Tryz.func48 #[.slice A1 l1.length c1] rfl ?_; (with_reducible refine (impl_degree.calls _ _ l1 t624 _ ?side1 ?side2 A6.out).mono ?_); (case side1 => exact cs ((Kd.C_below HR1.out HB.out))); (case side2 => exact HC1.out); rintro e w' ⟨rfl, ⟨nd, rfl⟩⟩; refine ⟨_, rfl, ?_⟩) | (go_at_call 48; (with_reducible refine (impl_degree.calls _ _ l2 t625 _ ?side1 ?side2 A8.out).mono ?_); (case side1 => exact cs (Kd.C_below HR2.out HB.out)); (case side2 => exact HC2.out); rintro e w' ⟨rfl, ⟨nd, rfl⟩⟩) | ((with_reducible refine gate_callee (f := 41) rfl ?_); refine goesM_ (some 36) rfl rfl Tryz.func41 #[.int .i64 a0, .slice A1 l1.length c1, .slice A2 l2.length c2] rfl ?_; (with_reducible refine (impl_field_compose.calls a0 _ _ l1 _ _ l2 t631 _ ?side1 ?side2 ?side3 ?side4 A17.out).mono ?_); (case side1 => exact cs (Kd.C_below HR1.out HB.out)); (case side2 => exact HC1.out); (case side3 => exact cs (Kd.C_below HR2.out HB.out)); (case side4 => exact HC2.out); rintro e w19 ⟨v632, rfl, ho0, hb⟩; refine ⟨_, rfl, ?_⟩; have n0_ := as0 (Kd.R_lower ho0 (below_size (bs HB))); have n1_ := as0 (below_step (bs HB) hb); clear HB; have HO633 := n0_; have HB := n1_; clear n0_ n1_; (try clear hb); (try clear hb2); (try clear hk); (try clear hi); (try clear ho0)))
    go_ret2
    exact ⟨_, er_, rs HO633, bs HB⟩
  ·
   rw [if_neg c7] at H
   have c7b0 : decide (0 < t624) = false := decide_eq_false c7
   clear c7
   replace H := Option.bind_eq_some_iff.mp H
   obtain ⟨t634, A200, H⟩ := H
   have A20 := as0 A200
   clear A200
   simp only [Option.some.injEq, Prod.mk.injEq] at H
   obtain ⟨rfl, rfl⟩ := H
   go_enter Tryz.func14, Tryz.ntmps14
   go_wp2_with (first | (go_at_call 34; (with_reducible refine (impl_polyCode_2.calls k a0 true A1 c1 l1 A2 c2 l2 t623 _ ?side1 ?side2 ?side3 ?side4 A4.out ?sideE ?sideG ?sideP ?sideQ).mono ?_); (case side1 => exact cs (HR1.out)); (case side2 => exact HC1.out); (case side3 => exact cs (HR2.out)); (case side4 => exact HC2.out); (case sideE => (first | exact enters_of Tryz.func47 (by kernel_rfl) rfl)); (case sideG => (first | exact always_gives _)); (case sideP => (first | (simp; done) | (simp [*]; done))); (case sideQ => (first | (simp; done) | (simp [*]; done))); rintro e w21 ⟨rfl, hb⟩; have n0_ := as0 (below_step (bs HB) hb); clear HB; have HB := n0_; clear n0_; (try clear hb); (try clear hb2); (try clear hk); (try clear hi)) | ((with_reducible refine gate_callee (f := 48) rfl ?_); refine goesM_ (some 18) rfl rfl Tryz.func48 #[.slice A1 l1.length c1] rfl ?_; (with_reducible refine (impl_degree.calls _ _ l1 t624 _ ?side1 ?side2 A6.out).mono ?_); (case side1 => exact cs ((Kd.C_below HR1.out HB.out))); (case side2 => exact HC1.out); rintro e w' ⟨rfl, ⟨nd, rfl⟩⟩; refine ⟨_, rfl, ?_⟩) | ((with_reducible refine gate_callee (f := 41) rfl ?_); refine goesM_ (some 36) rfl rfl Tryz.func41 #[.int .i64 a0, .slice A1 l1.length c1, .slice A2 l2.length c2] rfl ?_; (with_reducible refine (impl_field_compose.calls a0 _ _ l1 _ _ l2 t634 _ ?side1 ?side2 ?side3 ?side4 A20.out).mono ?_); (case side1 => exact cs (Kd.C_below HR1.out HB.out)); (case side2 => exact HC1.out); (case side3 => exact cs (Kd.C_below HR2.out HB.out)); (case side4 => exact HC2.out); rintro e w22 ⟨v635, rfl, ho0, hb⟩; refine ⟨_, rfl, ?_⟩; have n0_ := as0 (Kd.R_lower ho0 (below_size (bs HB))); have n1_ := as0 (below_step (bs HB) hb); clear HB; have HO636 := n0_; have HB := n1_; clear n0_ n1_; (try clear hb); (try clear hb2); (try clear hk); (try clear hi); (try clear ho0)))
   go_ret2
   exact ⟨_, er_, rs HO636, bs HB⟩
 ·
  rw [if_neg c5] at H
  have c5b0 : (t623 == 0) = false := beq_eq_false_iff_ne.mpr c5
  have c5b1 : (t623 != 0) = true := bne_iff_ne.mpr c5
  simp only [Option.some.injEq, Prod.mk.injEq] at H
  obtain ⟨rfl, rfl⟩ := H
  go_enter Tryz.func14, Tryz.ntmps14
  go_wp2_with (first | (go_at_call 34; (with_reducible refine (impl_polyCode_2.calls k a0 true A1 c1 l1 A2 c2 l2 t623 _ ?side1 ?side2 ?side3 ?side4 A4.out ?sideE ?sideG ?sideP ?sideQ).mono ?_); (case side1 => exact cs (HR1.out)); (case side2 => exact HC1.out); (case side3 => exact cs (HR2.out)); (case side4 => exact HC2.out); (case sideE => (first | exact enters_of Tryz.func47 (by kernel_rfl) rfl)); (case sideG => (first | exact always_gives _)); (case sideP => (first | (simp; done) | (simp [*]; done))); (case sideQ => (first | (simp; done) | (simp [*]; done))); rintro e w23 ⟨rfl, hb⟩; have n0_ := as0 (below_step (bs HB) hb); clear HB; have HB := n0_; clear n0_; (try clear hb); (try clear hb2); (try clear hk); (try clear hi)))
  go_ret2
  exact ⟨_, er_, by first | exact Kd.R_nil _ _ _ _ _ | exact Kd.N_nil _ _ _ _ _ | exact Kd.V_nil _ _ _ _ _ | exact Kd.Q_nil _ _ _ _ _ | exact Kd.S_nil _ _ _ _ _, bs HB⟩
end Go.Proofs.YtmadpicanmjhhaaGreatDoor.H
