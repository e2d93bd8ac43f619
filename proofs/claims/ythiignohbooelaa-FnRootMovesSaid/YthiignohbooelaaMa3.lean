/- Joined texts of a claim: the printed functions and what is proved of them. -/
import Derived.Test.YthiignohbooelaaMa2
import Derived.Test.YthiignohbooelaaMab3
import Derived.Test.YthiignohbooelaaMab1
import Derived.Test.YthiignohbooelaaMab4
import Derived.Test.YthiignohbooelaaMab5
import Derived.Test.YthiignohbooelaaYHx0
/- Layer 1, part 3: sums, multiples, monic polynomials. -/
set_option linter.unusedVariables false
set_option linter.unusedSimpArgs false
namespace Go.Proofs.Ythiignohbooelaa.H
open Go.RowKit Go.Proofs.YthiignohbooelaaW.PrintWords Go.Proofs.YthiignohbooelaaW.PrintLast Go.Proofs.Ythiignohbooelaa.Num
/-- from place i on, d numbers of g, each times c, are added -/
def ad (p c : Int) (g : List Int) : List Int → Nat → Nat → List Int
  | acc, _, 0 => acc
  | acc, i, d + 1 => ad p c g (acc.set i ((acc.getD i 0 + c * g.getD i 0) % p)) (i + 1) d
def pad (f : List Int) (n : Nat) : List Int := f ++ List.replicate (n - f.length) 0
def addL (p : Int) (f g : List Int) (c : Int) : List Int := trimL (ad p c g (pad f (max f.length g.length)) 0 g.length)
theorem ad_len (p c : Int) (g : List Int) : ∀ d i acc, (ad p c g acc i d).length = acc.length
  | 0, _, _ => rfl
  | d + 1, i, acc => by simp [ad, ad_len p c g d]
theorem ad_inR {p c : Int} (hp : 0 < p) (g : List Int) : ∀ d i acc, InR p acc → InR p (ad p c g acc i d)
  | 0, _, _, h => h
  | d + 1, i, acc, h => ad_inR hp g d (i + 1) _ (h.set i (emod_bd hp))
theorem pad_len (f : List Int) (n : Nat) (h : f.length ≤ n) : (pad f n).length = n := by simp [pad]; omega
theorem pad_inR {p : Int} (hp : 0 < p) {f : List Int} (h : InR p f) (n : Nat) : InR p (pad f n) := h.append (InR.zeros hp _)
theorem addL_len (p : Int) (f g : List Int) (c : Int) : (addL p f g c).length ≤ max f.length g.length := by
  have := trimL_len (ad p c g (pad f (max f.length g.length)) 0 g.length)
  rw [ad_len, pad_len _ _ (Nat.le_max_left _ _)] at this; exact this
theorem addL_inR {p : Int} (hp : 0 < p) {f : List Int} (h : InR p f) (g : List Int) (c : Int) : InR p (addL p f g c) := (ad_inR hp g _ _ _ (pad_inR hp h _)).trim
theorem spec_add {p c : Int} {f g : List Int} (hp : 2 ≤ p) (hp2 : p ≤ 10007) (hf : f.length ≤ 1000) (hg : g.length ≤ 1000) (rf : InR p f) (rg : InR p g) (c0 : 0 ≤ c) (c1 : c ≤ 100000) :
    Ev (fun k => spec_l01Add.f k p f g c) (addL p f g c) := by
  have loop2 : ∀ d i (acc : List Int), i + d = g.length → g.length ≤ acc.length → acc.length ≤ 1000 → InR p acc → Ev (fun k => spec_l01Add.l1 k p g c acc (i : Int)) (trimL (ad p c g acc i d)) := by
    intro d
    induction d with
    | zero =>
      intro i acc h1 h2 h3 h4
      obtain ⟨K, h⟩ := spec_trim acc (by omega)
      refine ⟨K + 1, fun k hk => ?_⟩
      obtain ⟨k, rfl⟩ : ∃ m, k = m + 1 := ⟨k - 1, by omega⟩
      have e := h k (by omega)
      simp only at e
      simp only [spec_l01Add.l1]
      rw [if_neg (by omega), e]
      simp [ad]
    | succ d ih =>
      intro i acc h1 h2 h3 h4
      obtain ⟨K, h⟩ := ih (i + 1) (acc.set i ((acc.getD i 0 + c * g.getD i 0) % p)) (by omega) (by simpa using h2) (by simpa using h3) (h4.set i (emod_bd (by omega)))
      refine ⟨K + 1, fun k hk => ?_⟩
      obtain ⟨k, rfl⟩ : ∃ m, k = m + 1 := ⟨k - 1, by omega⟩
      have e := h k (by omega)
      simp only at e
      have hb := mul_bd2 hp2 (rg.get (by omega) i) (y := c) (by omega)
      rw [Int.mul_comm] at hb
      have ha := h4.get (by omega) i
      simp only [spec_l01Add.l1]
      rw [if_pos (by omega), if_pos (by omega), if_pos (by omega), rd_nat, rd_nat, w64 (x := c * g.getD i 0) (by omega) (by omega), w64 (by omega) (by omega), spec_mod (by omega) (by omega), Option.bind_some, wn (by omega), Int.toNat_natCast, e]
      simp [ad]
  have loop1 : ∀ d i (acc : List Int), i + d = f.length → acc.length = max f.length g.length → acc.take i = f.take i → acc.drop i = List.replicate (acc.length - i) 0 →
      Ev (fun k => spec_l01Add.l0 k p f g c acc (i : Int)) (addL p f g c) := by
    intro d
    induction d with
    | zero =>
      intro i acc h1 h2 h3 h4
      have hacc : acc = pad f (max f.length g.length) := by
        have := List.take_append_drop i acc
        rw [h3, h4, List.take_of_length_le (by omega)] at this
        rw [← this, pad, h2, show i = f.length by omega]
      obtain ⟨K, h⟩ := loop2 g.length 0 acc (by omega) (by omega) (by omega) (by rw [hacc]; exact pad_inR (by omega) rf _)
      refine ⟨K + 1, fun k hk => ?_⟩
      obtain ⟨k, rfl⟩ : ∃ m, k = m + 1 := ⟨k - 1, by omega⟩
      have e := h k (by omega)
      simp only [Int.natCast_zero] at e
      simp only [spec_l01Add.l0]
      rw [if_neg (by omega), e, hacc]
      rfl
    | succ d ih =>
      intro i acc h1 h2 h3 h4
      obtain ⟨K, h⟩ := ih (i + 1) (acc.set i (f.getD i 0)) (by omega) (by simpa using h2)
        (by rw [List.take_succ_eq_append_getElem (by simp; omega), List.take_succ_eq_append_getElem (by omega), List.getElem_set_self, List.take_set_of_le (Nat.le_refl i), h3, List.getD_eq_getElem?_getD, List.getElem?_eq_getElem (by omega)]; rfl)
        (by
          rw [List.drop_set_of_lt (by omega), List.length_set]
          have e1 : acc.drop (i + 1) = (acc.drop i).drop 1 := by rw [List.drop_drop]
          rw [e1, h4, List.drop_replicate]
          congr 1)
      refine ⟨K + 1, fun k hk => ?_⟩
      obtain ⟨k, rfl⟩ : ∃ m, k = m + 1 := ⟨k - 1, by omega⟩
      have e := h k (by omega)
      simp only at e
      simp only [spec_l01Add.l0]
      rw [if_pos (by omega), if_pos (by omega), if_pos (by omega), rd_nat, wn (by omega), Int.toNat_natCast, e]
  unfold spec_l01Add.f
  by_cases hlt : (f.length : Int) < (g.length : Int)
  · obtain ⟨K, h⟩ := loop1 f.length 0 (List.replicate g.length 0) (by omega) (by simp; omega) (by simp) (by simp)
    refine ⟨K, fun k hk => ?_⟩
    have e := h k hk
    simp only [Int.natCast_zero] at e
    simp only
    rw [if_pos hlt, if_pos (by omega), if_pos (by omega), Int.toNat_natCast, e]
  · obtain ⟨K, h⟩ := loop1 f.length 0 (List.replicate f.length 0) (by omega) (by simp; omega) (by simp) (by simp)
    refine ⟨K, fun k hk => ?_⟩
    have e := h k hk
    simp only [Int.natCast_zero] at e
    simp only
    rw [if_neg hlt, if_pos (by omega), if_pos (by omega), Int.toNat_natCast, e]
theorem cpInto_pad (f : List Int) (n : Nat) (h : f.length ≤ n) : cpInto (List.replicate n 0) f = pad f n := by
  simp [cpInto, pad]
theorem impl_add {p c : Int} {f g : List Int} (hp : 2 ≤ p) (hp2 : p ≤ 10007) (hf : f.length ≤ 1000) (hg : g.length ≤ 1000) (rf : InR p f) (rg : InR p g) (c0 : 0 ≤ c) (c1 : c ≤ 100000) :
    Ev (fun k => impl_field_add.f k p f g c) (addL p f g c) := by
  have loop2 : ∀ d i (acc : List Int), i + d = g.length → g.length ≤ acc.length → acc.length ≤ 1000 → InR p acc → Ev (fun k => impl_field_add.l0 k p c acc g (g.length : Int) (i : Int)) (trimL (ad p c g acc i d)) := by
    intro d
    induction d with
    | zero =>
      intro i acc h1 h2 h3 h4
      obtain ⟨K, h⟩ := impl_trim acc (by omega)
      refine ⟨K + 1, fun k hk => ?_⟩
      obtain ⟨k, rfl⟩ : ∃ m, k = m + 1 := ⟨k - 1, by omega⟩
      have e := h k (by omega)
      simp only at e
      simp only [impl_field_add.l0]
      rw [if_neg (by omega), e]
      simp [ad]
    | succ d ih =>
      intro i acc h1 h2 h3 h4
      obtain ⟨K, h⟩ := ih (i + 1) (acc.set i ((acc.getD i 0 + c * g.getD i 0) % p)) (by omega) (by simpa using h2) (by simpa using h3) (h4.set i (emod_bd (by omega)))
      refine ⟨K + 1, fun k hk => ?_⟩
      obtain ⟨k, rfl⟩ : ∃ m, k = m + 1 := ⟨k - 1, by omega⟩
      have e := h k (by omega)
      simp only at e
      have hb := mul_bd2 hp2 (rg.get (by omega) i) (y := c) (by omega)
      rw [Int.mul_comm] at hb
      have ha := h4.get (by omega) i
      simp only [impl_field_add.l0]
      rw [if_pos (by omega), if_pos (by omega), if_pos (by omega), if_pos (by omega), rd_nat, rd_nat, w64 (x := c * g.getD i 0) (by omega) (by omega), w64 (by omega) (by omega), impl_mod (by omega) (by omega), Option.bind_some, wn (by omega), Int.toNat_natCast, e]
      simp [ad]
  unfold impl_field_add.f
  by_cases hlt : (f.length : Int) < (g.length : Int)
  · obtain ⟨K, h⟩ := loop2 g.length 0 (pad f g.length) (by omega) (by rw [pad_len _ _ (by omega)]; omega) (by rw [pad_len _ _ (by omega)]; omega) (pad_inR (by omega) rf _)
    refine ⟨K, fun k hk => ?_⟩
    have e := h k hk
    simp only [Int.natCast_zero] at e
    simp only
    rw [if_pos hlt, if_pos (by omega), if_pos (by omega), Int.toNat_natCast, cpInto_pad _ _ (by omega), e, addL, Nat.max_eq_right (by omega)]
  · obtain ⟨K, h⟩ := loop2 g.length 0 (pad f f.length) (by omega) (by rw [pad_len _ _ (by omega)]; omega) (by rw [pad_len _ _ (by omega)]; omega) (pad_inR (by omega) rf _)
    refine ⟨K, fun k hk => ?_⟩
    have e := h k hk
    simp only [Int.natCast_zero] at e
    simp only
    rw [if_neg hlt, if_pos (by omega), if_pos (by omega), Int.toNat_natCast, cpInto_pad _ _ (by omega), e, addL, Nat.max_eq_left (by omega)]
theorem impl_times {p c : Int} {f : List Int} (hp : 2 ≤ p) (hp2 : p ≤ 10007) (hf : f.length ≤ 1000) (rf : InR p f) (c0 : 0 ≤ c) (c1 : c ≤ 100000) : Ev (fun k => impl_field_times.f k p f c) (addL p [] f c) := by
  obtain ⟨K, h⟩ := impl_add (f := []) (g := f) hp hp2 (by simp) hf InR.nil rf c0 c1
  refine ⟨K, fun k hk => ?_⟩
  have e := h k hk
  simp only at e
  simp only [impl_field_times.f, e, Option.bind_some]
/-- x to the p - 2 -/
def inv (p x : Int) : Int := x ^ (p - 2).toNat % p
theorem inv_bd {p : Int} (hp : 0 < p) (x : Int) : 0 ≤ inv p x ∧ inv p x < p := emod_bd hp
def monicL (p : Int) (f : List Int) : List Int := addL p [] f (inv p (rd f ((f.length : Int) - 1)))
theorem impl_monic {p : Int} {f : List Int} (hp : 2 ≤ p) (hp2 : p ≤ 10007) (hf : f.length ≤ 1000) (rf : InR p f) (h0 : f.length ≠ 0) : Ev (fun k => impl_field_monic.f k p f) (monicL p f) := by
  have hb := inv_bd (p := p) (by omega) (rd f ((f.length : Int) - 1))
  have hr : 0 ≤ rd f ((f.length : Int) - 1) ∧ rd f ((f.length : Int) - 1) < p := by
    have := rf.get (by omega) (f.length - 1)
    rw [← rd_nat] at this
    rwa [show ((f.length - 1 : Nat) : Int) = (f.length : Int) - 1 by omega] at this
  obtain ⟨K1, h1⟩ := impl_inverse (x := rd f ((f.length : Int) - 1)) hp hp2 hr.1 hr.2
  obtain ⟨K2, h2⟩ := impl_times (c := inv p (rd f ((f.length : Int) - 1))) (f := f) hp hp2 hf rf (by omega) (by omega)
  have hw : wrap64 ((f.length : Int) - 1) = (f.length : Int) - 1 := w64 (by omega) (by omega)
  refine ⟨K1 + K2, fun k hk => ?_⟩
  have e1 := h1 k (by omega)
  have e2 := h2 k (by omega)
  simp only at e1 e2
  simp only [impl_field_monic.f]
  rw [hw, if_pos (by omega), if_pos (by omega), e1, Option.bind_some]
  exact (congrArg (fun z => z.bind fun t => some t) e2).trans rfl
end Go.Proofs.Ythiignohbooelaa.H
/- Layer 1, part 4: products. -/
set_option linter.unusedVariables false
set_option linter.unusedSimpArgs false
namespace Go.Proofs.Ythiignohbooelaa.H
open Go.RowKit Go.Proofs.YthiignohbooelaaW.PrintWords Go.Proofs.YthiignohbooelaaW.PrintLast Go.Proofs.Ythiignohbooelaa.Num
def pr1 (p x : Int) (g : List Int) (i : Nat) : List Int → Nat → Nat → List Int
  | acc, _, 0 => acc
  | acc, j, d + 1 => pr1 p x g i (acc.set (i + j) ((acc.getD (i + j) 0 + x * g.getD j 0) % p)) (j + 1) d
def pr0 (p : Int) (f g : List Int) : List Int → Nat → Nat → List Int
  | acc, _, 0 => acc
  | acc, i, d + 1 => pr0 p f g (pr1 p (f.getD i 0) g i acc 0 g.length) (i + 1) d
def mulW (p : Int) (f g : List Int) : List Int := pr0 p f g (List.replicate (f.length + g.length - 1) 0) 0 f.length
def mulL (p : Int) (f g : List Int) : List Int := if f.length = 0 ∨ g.length = 0 then [] else trimL (mulW p f g)
theorem pr1_len (p x : Int) (g : List Int) (i : Nat) : ∀ d j acc, (pr1 p x g i acc j d).length = acc.length
  | 0, _, _ => rfl
  | d + 1, j, acc => by simp [pr1, pr1_len p x g i d]
theorem pr0_len (p : Int) (f g : List Int) : ∀ d i acc, (pr0 p f g acc i d).length = acc.length
  | 0, _, _ => rfl
  | d + 1, i, acc => by simp [pr0, pr0_len p f g d, pr1_len]
theorem pr1_inR {p x : Int} (hp : 0 < p) (g : List Int) (i : Nat) : ∀ d j acc, InR p acc → InR p (pr1 p x g i acc j d)
  | 0, _, _, h => h
  | d + 1, j, acc, h => pr1_inR hp g i d (j + 1) _ (h.set _ (emod_bd hp))
theorem pr0_inR {p : Int} (hp : 0 < p) (f g : List Int) : ∀ d i acc, InR p acc → InR p (pr0 p f g acc i d)
  | 0, _, _, h => h
  | d + 1, i, acc, h => pr0_inR hp f g d (i + 1) _ (pr1_inR hp g i _ _ _ h)
theorem mulW_len (p : Int) (f g : List Int) : (mulW p f g).length = f.length + g.length - 1 := by simp [mulW, pr0_len]
theorem mulW_inR {p : Int} (hp : 0 < p) (f g : List Int) : InR p (mulW p f g) := pr0_inR hp f g _ _ _ (InR.zeros hp _)
theorem mulL_inR {p : Int} (hp : 0 < p) (f g : List Int) : InR p (mulL p f g) := by
  unfold mulL; split
  · exact InR.nil
  · exact (mulW_inR hp f g).trim
theorem mulL_len (p : Int) (f g : List Int) : (mulL p f g).length ≤ f.length + g.length - 1 := by
  unfold mulL; split
  · simp
  · have := trimL_len (mulW p f g); rw [mulW_len] at this; exact this
theorem spec_step {p : Int} {f g acc : List Int} (k i j : Nat) (hp : 2 ≤ p) (hi : i < f.length) (hj : j < g.length) (hL : i + j < acc.length) (h5 : i + j ≤ 100000)
    (hb : 0 ≤ f.getD i 0 * g.getD j 0 ∧ f.getD i 0 * g.getD j 0 ≤ 1000700000) (ha : 0 ≤ acc.getD (i + j) 0 ∧ acc.getD (i + j) 0 ≤ 100000) :
    spec_l01Times.l1 (k + 1) p f g acc (i : Int) (j : Int) = spec_l01Times.l1 k p f g (acc.set (i + j) ((acc.getD (i + j) 0 + f.getD i 0 * g.getD j 0) % p)) (i : Int) ((j + 1 : Nat) : Int) := by
  have hw : wrap64 ((i : Int) + (j : Int)) = ((i + j : Nat) : Int) := by rw [w64 (by omega) (by omega)]; omega
  have q1 : (j : Int) < (g.length : Int) := by omega
  have q2 : (0 : Int) ≤ ((i + j : Nat) : Int) := by omega
  have q3 : ((i + j : Nat) : Int) < (acc.length : Int) := by omega
  have q4 : (0 : Int) ≤ (i : Int) := by omega
  have q5 : (i : Int) < (f.length : Int) := by omega
  have q6 : (0 : Int) ≤ (j : Int) := by omega
  have q7 : ¬ p = 0 := by omega
  have w1 : wrap64 (f.getD i 0 * g.getD j 0) = f.getD i 0 * g.getD j 0 := w64 (by omega) (by omega)
  have w2 : wrap64 (acc.getD (i + j) 0 + f.getD i 0 * g.getD j 0) = acc.getD (i + j) 0 + f.getD i 0 * g.getD j 0 := w64 (by omega) (by omega)
  have w3 : wrap64 ((j : Int) + 1) = ((j + 1 : Nat) : Int) := wn (by omega)
  have w4 : Int.tmod (acc.getD (i + j) 0 + f.getD i 0 * g.getD j 0) p = (acc.getD (i + j) 0 + f.getD i 0 * g.getD j 0) % p := tmod_nn (by omega)
  simp only [spec_l01Times.l1, hw]
  rw [if_pos q1, if_pos q2, if_pos q3, if_pos q4, if_pos q5, if_pos q6, if_neg q7, rd_nat, rd_nat, rd_nat, w1, w2, w3, w4, Int.toNat_natCast]
theorem impl_step {p : Int} {f g acc : List Int} (k i j : Nat) (hp : 2 ≤ p) (hp2 : p ≤ 10007) (hi : i < f.length) (hj : j < g.length) (hL : i + j < acc.length) (h5 : i + j ≤ 100000)
    (hb : 0 ≤ f.getD i 0 * g.getD j 0 ∧ f.getD i 0 * g.getD j 0 ≤ 1000700000) (ha : 0 ≤ acc.getD (i + j) 0 ∧ acc.getD (i + j) 0 ≤ 100000) (n : Int) :
    impl_field_product.l1 (k + 1) p g acc (i : Int) (f.getD i 0) f n (i : Int) g (g.length : Int) (j : Int) = impl_field_product.l1 k p g (acc.set (i + j) ((acc.getD (i + j) 0 + f.getD i 0 * g.getD j 0) % p)) (i : Int) (f.getD i 0) f n (i : Int) g (g.length : Int) ((j + 1 : Nat) : Int) := by
  have hw : wrap64 ((i : Int) + (j : Int)) = ((i + j : Nat) : Int) := by rw [w64 (by omega) (by omega)]; omega
  have q1 : (j : Int) < (g.length : Int) := by omega
  have q2 : (0 : Int) ≤ ((i + j : Nat) : Int) := by omega
  have q3 : ((i + j : Nat) : Int) < (acc.length : Int) := by omega
  have q6 : (0 : Int) ≤ (j : Int) := by omega
  have w1 : wrap64 (f.getD i 0 * g.getD j 0) = f.getD i 0 * g.getD j 0 := w64 (by omega) (by omega)
  have w2 : wrap64 (acc.getD (i + j) 0 + f.getD i 0 * g.getD j 0) = acc.getD (i + j) 0 + f.getD i 0 * g.getD j 0 := w64 (by omega) (by omega)
  have w3 : wrap64 ((j : Int) + 1) = ((j + 1 : Nat) : Int) := wn (by omega)
  have w4 : impl_field_mod.f p (acc.getD (i + j) 0 + f.getD i 0 * g.getD j 0) = some ((acc.getD (i + j) 0 + f.getD i 0 * g.getD j 0) % p) := impl_mod (by omega) (by omega)
  simp only [impl_field_product.l1, hw]
  rw [if_pos q1, if_pos q6, if_pos q1, if_pos q2, if_pos q3, rd_nat, rd_nat, w1, w2, w3, w4, Int.toNat_natCast, Option.bind_some]
set_option maxHeartbeats 2000000 in
theorem spec_product {p : Int} {f g : List Int} (hp : 2 ≤ p) (hp2 : p ≤ 10007) (hf : f.length ≤ 1000) (hg : g.length ≤ 1000) (rf : InR p f) (rg : InR p g) : Ev (fun k => spec_l01Times.f k p f g) (mulL p f g) := by
  have inner : ∀ (i : Nat) (r : List Int), i < f.length → ∀ d j (acc : List Int), j + d = g.length → acc.length = f.length + g.length - 1 → InR p acc →
      Ev (fun k => spec_l01Times.l0 k p f g (pr1 p (f.getD i 0) g i acc j d) ((i + 1 : Nat) : Int)) r → Ev (fun k => spec_l01Times.l1 k p f g acc (i : Int) (j : Int)) r := by
    intro i r hi d
    induction d with
    | zero =>
      intro j acc h1 h2 h3 ⟨K, h⟩
      refine ⟨K + 1, fun k hk => ?_⟩
      obtain ⟨k, rfl⟩ : ∃ m, k = m + 1 := ⟨k - 1, by omega⟩
      have e := h k (by omega)
      simp only [pr1] at e
      simp only [spec_l01Times.l1]
      rw [if_neg (by omega), wn (by omega), e]
    | succ d ih =>
      intro j acc h1 h2 h3 h
      obtain ⟨K, h⟩ := ih (j + 1) (acc.set (i + j) ((acc.getD (i + j) 0 + f.getD i 0 * g.getD j 0) % p)) (by omega) (by simpa using h2) (h3.set _ (emod_bd (by omega))) h
      refine ⟨K + 1, fun k hk => ?_⟩
      obtain ⟨k, rfl⟩ : ∃ m, k = m + 1 := ⟨k - 1, by omega⟩
      have e := h k (by omega)
      simp only at e
      have hb := mul_bd2 hp2 (rf.get (by omega) i) (y := g.getD j 0) (by have := rg.get (by omega) j; omega)
      have ha := h3.get (by omega) (i + j)
      exact (spec_step k i j hp hi (by omega) (by omega) (by omega) hb ⟨ha.1, by omega⟩).trans e
  have outer : ∀ d i (acc : List Int), i + d = f.length → acc.length = f.length + g.length - 1 → InR p acc → Ev (fun k => spec_l01Times.l0 k p f g acc (i : Int)) (trimL (pr0 p f g acc i d)) := by
    intro d
    induction d with
    | zero =>
      intro i acc h1 h2 h3
      obtain ⟨K, h⟩ := spec_trim acc (by omega)
      refine ⟨K + 1, fun k hk => ?_⟩
      obtain ⟨k, rfl⟩ : ∃ m, k = m + 1 := ⟨k - 1, by omega⟩
      have e := h k (by omega)
      simp only at e
      simp only [spec_l01Times.l0]
      rw [if_neg (by omega), e]
      simp [pr0]
    | succ d ih =>
      intro i acc h1 h2 h3
      have hin := inner i _ (by omega) g.length 0 acc (by omega) h2 h3 (ih (i + 1) (pr1 p (f.getD i 0) g i acc 0 g.length) (by omega) (by rw [pr1_len]; exact h2) (pr1_inR (by omega) g i _ _ _ h3))
      obtain ⟨K, h⟩ := hin
      refine ⟨K + 1, fun k hk => ?_⟩
      obtain ⟨k, rfl⟩ : ∃ m, k = m + 1 := ⟨k - 1, by omega⟩
      have e := h k (by omega)
      simp only [Int.natCast_zero] at e
      simp only [spec_l01Times.l0]
      rw [if_pos (by omega), e]
      rfl
  unfold mulL
  by_cases h0 : f.length = 0 ∨ g.length = 0
  · rw [if_pos h0]
    refine ⟨1, fun k hk => ?_⟩
    obtain ⟨k, rfl⟩ : ∃ m, k = m + 1 := ⟨k - 1, by omega⟩
    simp only [spec_l01Times.f]
    by_cases hf0 : (f.length : Int) = 0
    · rw [if_pos hf0]; simp only [spec_l01Times.j0, if_true]
    · rw [if_neg hf0]
      have hz : ((g.length : Int) == 0) = true := beq_iff_eq.mpr (by omega)
      rw [hz]; simp only [spec_l01Times.j0, if_true]
  · rw [if_neg h0]
    obtain ⟨K, h⟩ := outer f.length 0 (List.replicate (f.length + g.length - 1) 0) (by omega) (by simp) (InR.zeros (by omega) _)
    refine ⟨K + 1, fun k hk => ?_⟩
    obtain ⟨k, rfl⟩ : ∃ m, k = m + 1 := ⟨k - 1, by omega⟩
    have e := h k (by omega)
    simp only [Int.natCast_zero] at e
    have hz : ((g.length : Int) == 0) = false := beq_eq_false_iff_ne.mpr (by omega)
    have hw : wrap64 (wrap64 ((f.length : Int) + (g.length : Int)) - 1) = ((f.length + g.length - 1 : Nat) : Int) := by rw [w64 (x := (f.length : Int) + (g.length : Int)) (by omega) (by omega), w64 (by omega) (by omega)]; omega
    simp only [spec_l01Times.f]
    rw [if_neg (by omega), hz]
    simp only [spec_l01Times.j0, hw, Bool.false_eq_true, if_false]
    rw [if_pos (by omega), if_pos (by omega), Int.toNat_natCast, e]
    rfl
set_option maxHeartbeats 2000000 in
theorem impl_product {p : Int} {f g : List Int} (hp : 2 ≤ p) (hp2 : p ≤ 10007) (hf : f.length ≤ 1000) (hg : g.length ≤ 1000) (rf : InR p f) (rg : InR p g) : Ev (fun k => impl_field_product.f k p f g) (mulL p f g) := by
  have inner : ∀ (i : Nat) (r : List Int), i < f.length → ∀ d j (acc : List Int), j + d = g.length → acc.length = f.length + g.length - 1 → InR p acc →
      Ev (fun k => impl_field_product.l0 k p g (pr1 p (f.getD i 0) g i acc j d) f (f.length : Int) ((i + 1 : Nat) : Int)) r → Ev (fun k => impl_field_product.l1 k p g acc (i : Int) (f.getD i 0) f (f.length : Int) (i : Int) g (g.length : Int) (j : Int)) r := by
    intro i r hi d
    induction d with
    | zero =>
      intro j acc h1 h2 h3 ⟨K, h⟩
      refine ⟨K + 1, fun k hk => ?_⟩
      obtain ⟨k, rfl⟩ : ∃ m, k = m + 1 := ⟨k - 1, by omega⟩
      have e := h k (by omega)
      simp only [pr1] at e
      simp only [impl_field_product.l1]
      rw [if_neg (by omega), wn (by omega), e]
    | succ d ih =>
      intro j acc h1 h2 h3 h
      obtain ⟨K, h⟩ := ih (j + 1) (acc.set (i + j) ((acc.getD (i + j) 0 + f.getD i 0 * g.getD j 0) % p)) (by omega) (by simpa using h2) (h3.set _ (emod_bd (by omega))) h
      refine ⟨K + 1, fun k hk => ?_⟩
      obtain ⟨k, rfl⟩ : ∃ m, k = m + 1 := ⟨k - 1, by omega⟩
      have e := h k (by omega)
      simp only at e
      have hb := mul_bd2 hp2 (rf.get (by omega) i) (y := g.getD j 0) (by have := rg.get (by omega) j; omega)
      have ha := h3.get (by omega) (i + j)
      exact (impl_step k i j hp hp2 hi (by omega) (by omega) (by omega) hb ⟨ha.1, by omega⟩ _).trans e
  have outer : ∀ d i (acc : List Int), i + d = f.length → acc.length = f.length + g.length - 1 → InR p acc → Ev (fun k => impl_field_product.l0 k p g acc f (f.length : Int) (i : Int)) (trimL (pr0 p f g acc i d)) := by
    intro d
    induction d with
    | zero =>
      intro i acc h1 h2 h3
      obtain ⟨K, h⟩ := impl_trim acc (by omega)
      refine ⟨K + 1, fun k hk => ?_⟩
      obtain ⟨k, rfl⟩ : ∃ m, k = m + 1 := ⟨k - 1, by omega⟩
      have e := h k (by omega)
      simp only at e
      simp only [impl_field_product.l0]
      rw [if_neg (by omega), e]
      simp [pr0]
    | succ d ih =>
      intro i acc h1 h2 h3
      have hin := inner i _ (by omega) g.length 0 acc (by omega) h2 h3 (ih (i + 1) (pr1 p (f.getD i 0) g i acc 0 g.length) (by omega) (by rw [pr1_len]; exact h2) (pr1_inR (by omega) g i _ _ _ h3))
      obtain ⟨K, h⟩ := hin
      refine ⟨K + 1, fun k hk => ?_⟩
      obtain ⟨k, rfl⟩ : ∃ m, k = m + 1 := ⟨k - 1, by omega⟩
      have e := h k (by omega)
      simp only [Int.natCast_zero] at e
      simp only [impl_field_product.l0]
      rw [if_pos (by omega), if_pos (by omega), if_pos (by omega), rd_nat, e]
      rfl
  unfold mulL
  by_cases h0 : f.length = 0 ∨ g.length = 0
  · rw [if_pos h0]
    refine ⟨1, fun k hk => ?_⟩
    obtain ⟨k, rfl⟩ : ∃ m, k = m + 1 := ⟨k - 1, by omega⟩
    simp only [impl_field_product.f]
    by_cases hf0 : (f.length : Int) = 0
    · rw [if_pos hf0]; simp only [impl_field_product.j0, if_true]
    · rw [if_neg hf0]
      have hz : ((g.length : Int) == 0) = true := beq_iff_eq.mpr (by omega)
      rw [hz]; simp only [impl_field_product.j0, if_true]
  · rw [if_neg h0]
    obtain ⟨K, h⟩ := outer f.length 0 (List.replicate (f.length + g.length - 1) 0) (by omega) (by simp) (InR.zeros (by omega) _)
    refine ⟨K + 1, fun k hk => ?_⟩
    obtain ⟨k, rfl⟩ : ∃ m, k = m + 1 := ⟨k - 1, by omega⟩
    have e := h k (by omega)
    simp only [Int.natCast_zero] at e
    have hz : ((g.length : Int) == 0) = false := beq_eq_false_iff_ne.mpr (by omega)
    have hw : wrap64 (wrap64 ((f.length : Int) + (g.length : Int)) - 1) = ((f.length + g.length - 1 : Nat) : Int) := by rw [w64 (x := (f.length : Int) + (g.length : Int)) (by omega) (by omega), w64 (by omega) (by omega)]; omega
    simp only [impl_field_product.f]
    rw [if_neg (by omega), hz]
    simp only [impl_field_product.j0, hw, Bool.false_eq_true, if_false]
    rw [if_pos (by omega), if_pos (by omega), Int.toNat_natCast, e]
    rfl
/-! ## degrees of products -/
theorem trimL_id {l : List Int} (h : l.length = 0 ∨ l.getD (l.length - 1) 0 ≠ 0) : trimL l = l := by
  unfold trimL
  rcases h with h | h
  · rw [h]; simp [tlen]; exact List.eq_nil_of_length_eq_zero h
  · obtain ⟨n, hn⟩ : ∃ n, l.length = n + 1 ∨ l.length = 0 := ⟨l.length - 1, by omega⟩
    rcases hn with hn | hn
    · rw [hn] at h ⊢
      simp only [Nat.add_sub_cancel] at h
      simp only [tlen, if_neg h]
      exact List.take_of_length_le (by omega)
    · rw [hn]; simp [tlen]; exact List.eq_nil_of_length_eq_zero hn
theorem mul_ne0 {p x y : Int} (hp : IsP p) (hx : 0 < x ∧ x < p) (hy : 0 < y ∧ y < p) : x * y % p ≠ 0 := by
  intro h
  obtain ⟨a, rfl⟩ : ∃ a : Nat, x = a := ⟨x.toNat, by omega⟩
  obtain ⟨b, rfl⟩ : ∃ b : Nat, y = b := ⟨y.toNat, by omega⟩
  obtain ⟨n, hn⟩ : ∃ n : Nat, p = n := ⟨p.toNat, by have := hp.1; omega⟩
  subst hn
  have hd : n ∣ a * b := by
    apply Nat.dvd_of_mod_eq_zero
    have : ((a * b % n : Nat) : Int) = 0 := by simpa using h
    omega
  have hpr : Pr n := by simpa using hp.2.2
  rcases hpr.euclid hd with h' | h'
  · have := Nat.le_of_dvd (by omega) h'; omega
  · have := Nat.le_of_dvd (by omega) h'; omega
theorem pr1_other (p x : Int) (g : List Int) (i t : Nat) : ∀ d j acc, (t < i + j ∨ i + j + d ≤ t) → (pr1 p x g i acc j d).getD t 0 = acc.getD t 0
  | 0, _, _, _ => rfl
  | d + 1, j, acc, h => by
    rw [pr1, pr1_other p x g i t d (j + 1) _ (by omega)]
    simp only [List.getD_eq_getElem?_getD]
    rw [List.getElem?_set_ne (by omega)]
theorem pr1_snoc (p x : Int) (g : List Int) (i : Nat) : ∀ d j acc, pr1 p x g i acc j (d + 1) = (pr1 p x g i acc j d).set (i + (j + d)) (((pr1 p x g i acc j d).getD (i + (j + d)) 0 + x * g.getD (j + d) 0) % p)
  | 0, j, acc => rfl
  | d + 1, j, acc => by
    rw [pr1, pr1_snoc p x g i d (j + 1)]
    simp only [pr1, show j + 1 + d = j + (d + 1) by omega]
theorem pr0_snoc (p : Int) (f g : List Int) : ∀ d i acc, pr0 p f g acc i (d + 1) = pr1 p (f.getD (i + d) 0) g (i + d) (pr0 p f g acc i d) 0 g.length
  | 0, i, acc => rfl
  | d + 1, i, acc => by
    rw [pr0, pr0_snoc p f g d (i + 1)]
    simp only [pr0, show i + 1 + d = i + (d + 1) by omega]
theorem pr0_other (p : Int) (f g : List Int) (t : Nat) : ∀ d i acc, i + d + g.length ≤ t + 1 → (pr0 p f g acc i d).getD t 0 = acc.getD t 0
  | 0, _, _, _ => rfl
  | d + 1, i, acc, h => by
    rw [pr0, pr0_other p f g t d (i + 1) _ (by omega), pr1_other _ _ _ _ _ _ _ _ (by omega)]
/-- the last number of a product -/
theorem mulW_top {p : Int} {f g : List Int} (hf : 0 < f.length) (hg : 0 < g.length) : (mulW p f g).getD (f.length + g.length - 2) 0 = f.getD (f.length - 1) 0 * g.getD (g.length - 1) 0 % p := by
  obtain ⟨n, hn⟩ : ∃ n, f.length = n + 1 := ⟨f.length - 1, by omega⟩
  obtain ⟨m, hm⟩ : ∃ m, g.length = m + 1 := ⟨g.length - 1, by omega⟩
  have hl : ∀ d, (pr0 p f g (List.replicate (n + 1 + (m + 1) - 1) 0) 0 d).length = n + m + 1 := fun d => by rw [pr0_len]; simp; omega
  unfold mulW
  rw [hn, hm, pr0_snoc, hm, pr1_snoc]
  simp only [Nat.zero_add]
  rw [show n + 1 + (m + 1) - 2 = n + m by omega, show n + 1 - 1 = n by omega, show m + 1 - 1 = m by omega]
  simp only [List.getD_eq_getElem?_getD]
  rw [List.getElem?_set_self (by rw [pr1_len, hl]; omega)]
  simp only [Option.getD_some]
  rw [← List.getD_eq_getElem?_getD, pr1_other _ _ _ _ _ _ _ _ (by omega), pr0_other _ _ _ _ _ _ _ (by omega)]
  simp [List.getD_eq_getElem?_getD, List.getElem?_replicate]
theorem Po.last_bd {p : Int} {f : List Int} (h : Po p f) (hp : 0 < p) (h0 : 0 < f.length) : 0 < f.getD (f.length - 1) 0 ∧ f.getD (f.length - 1) 0 < p := by
  have h1 := h.inR.get hp (f.length - 1)
  rcases h.last with h2 | h2
  · omega
  · rw [show (f.length : Int) - 1 = ((f.length - 1 : Nat) : Int) by omega, rd_nat] at h2
    omega
theorem mulL_len_eq {p : Int} {f g : List Int} (hp : IsP p) (pf : Po p f) (pg : Po p g) (hf : 0 < f.length) (hg : 0 < g.length) : mulL p f g = mulW p f g := by
  unfold mulL
  rw [if_neg (by omega), trimL_id]
  right
  rw [mulW_len, show f.length + g.length - 1 - 1 = f.length + g.length - 2 by omega, mulW_top hf hg]
  exact mul_ne0 hp (pf.last_bd (by have := hp.1; omega) hf) (pg.last_bd (by have := hp.1; omega) hg)
end Go.Proofs.Ythiignohbooelaa.H
namespace Go.Proofs.Ythiignohbooelaa.H
open Go.RowKit Go.Proofs.YthiignohbooelaaW.PrintWords Go.Proofs.YthiignohbooelaaW.PrintLast Go.Proofs.YthiignohbooelaaW.PrintMore
attribute [local go_sem] max2_int min2_int max_two min_two max_three min_three max_four min_four   -- for this text's walks alone
set_option linter.unusedVariables false
set_option linter.unusedSimpArgs false
/-! ### impl_field_compose: function 43 (by hand) -/
attribute [local go_sem] Oper.semAt_some
open Go.Shelf
/-- composition by Horner's rule -/
def compL (p : Int) (f g : List Int) : List Int := f.foldr (fun c acc => addL p (mulL p acc g) [1] c) []
def compOk (p : Int) (f g : List Int) : Bool := decide (2 ≤ p) && decide (p ≤ 10007) && f.all (hasB p) && g.all (hasB p) && decide (f.length ≤ 25) && decide (g.length ≤ 25)
def impl_field_compose.f (a0 : Int) (l1 l2 : List Int) : Option (List Int) := if compOk a0 l1 l2 = true then some (compL a0 l1 l2) else none
abbrev Rg (p : Int) : Type := { c : Int // 0 ≤ c ∧ c < p }
def compW (p : Int) (g : List Int) (l : List (Int × Rg p)) : List Int := l.foldl (fun acc x => addL p (mulL p acc g) [1] x.2.1) []
theorem compW_snoc (p : Int) (g : List Int) (l : List (Int × Rg p)) (x : Int × Rg p) : compW p g (l ++ [x]) = addL p (mulL p (compW p g l) g) [1] x.2.1 := by simp [compW]
theorem compW_len (p : Int) (g : List Int) (hg : g.length ≤ 25) (l : List (Int × Rg p)) : (compW p g l).length ≤ 24 * l.length + 1 := by
  have h : ∀ (l : List (Int × Rg p)) (acc : List Int), (l.foldl (fun acc x => addL p (mulL p acc g) [1] x.2.1) acc).length ≤ 24 * l.length + max acc.length 1 := by
    intro l
    induction l with
    | nil => intro acc; simp; omega
    | cons x l ih =>
      intro acc
      have h0 := ih (addL p (mulL p acc g) [1] x.2.1)
      have h1 := addL_len p (mulL p acc g) [1] x.2.1
      have h2 := mulL_len p acc g
      simp only [List.length_singleton] at h1
      simp only [List.foldl_cons, List.length_cons]
      omega
  exact h l []
theorem compW_inR {p : Int} (hp : 0 < p) (g : List Int) (l : List (Int × Rg p)) : InR p (compW p g l) := by
  have h : ∀ (l : List (Int × Rg p)) (acc : List Int), InR p acc → InR p (l.foldl (fun acc x => addL p (mulL p acc g) [1] x.2.1) acc) := by
    intro l
    induction l with
    | nil => intro acc h; exact h
    | cons x l ih => intro acc h; exact ih _ (addL_inR hp (mulL_inR hp _ _) _ _)
  exact h l [] InR.nil
theorem compW_all {p : Int} (hp : 0 < p) (f g : List Int) (hr : InR p f) : compW p g (bwUpto (fun j => (⟨f.getD j 0, hr.get hp j⟩ : Rg p)) f.length f.length) = compL p f g := by
  have h : ∀ k, k ≤ f.length → compW p g (bwUpto (fun j => (⟨f.getD j 0, hr.get hp j⟩ : Rg p)) f.length k) = compL p (f.drop (f.length - k)) g := by
    intro k
    induction k with
    | zero => intro _; simp [bwUpto, compW, compL]
    | succ k ih =>
      intro hk
      rw [bwUpto_succ, compW_snoc, ih (by omega), List.drop_eq_getElem_cons (show f.length - (k + 1) < f.length by omega), show f.length - (k + 1) + 1 = f.length - k by omega]
      simp only [compL, List.foldr_cons]
      simp only [show f.length - 1 - k = f.length - (k + 1) by omega]
      rw [List.getD_eq_getElem?_getD, List.getElem?_eq_getElem (by omega)]
      rfl
  have := h f.length (Nat.le_refl _)
  rwa [Nat.sub_self, List.drop_zero] at this
theorem grown_none {W w1 : World} (h : W.grownBy w1 none) : Below W.heap.size W w1 := ⟨h.os, h.tape, h.output, h.size, fun k hk => h.block k hk (by simp)⟩
set_option maxRecDepth 100000 in
set_option maxHeartbeats 8000000 in
theorem impl_field_compose.calls (a0 : Int) (A1 : Option Addr) (c1 : Nat) (l1 : List Int) (A2 : Option Addr) (c2 : Nat) (l2 : List Int) (r : List Int) (w : World) (hr1 : Kd.C (Kd.int .i64) w A1 l1.length l1) (hc1 : l1.length ≤ c1) (hr2 : Kd.C (Kd.int .i64) w A2 l2.length l2) (hc2 : l2.length ≤ c2) (h : impl_field_compose.f a0 l1 l2 = some r) :
    Calls Try.prog 43 #[.int .i64 a0, .slice A1 l1.length c1, .slice A2 l2.length c2] w fun e w' => ∃ v0_ : Value, e = .returned v0_ ∧ Kd.R (Kd.int .i64) 2 w' w.heap.size (fun _ => True) v0_ r ∧ Below w.heap.size w w' := by
  have hlen := Kd.C_max hr1
  unfold impl_field_compose.f at h
  by_cases hok : compOk a0 l1 l2 = true
  case neg => rw [if_neg hok] at h; cases h
  rw [if_pos hok] at h
  obtain rfl := Option.some.inj h
  clear h
  simp only [compOk, Bool.and_eq_true, decide_eq_true_eq, List.all_eq_true, hasB_iff] at hok
  obtain ⟨⟨⟨⟨⟨hp, hp2⟩, rf⟩, rg⟩, lf⟩, lg⟩ := hok
  refine (callsIn_wide (n := 3)).1 ?_
  refine callsIn_of_wp_marks Try.func43 rfl trivial ?_ rfl
  simp only [Try.ntmps43, List.size_toArray, List.length_cons, List.length_nil, Nat.reduceAdd, Nat.reduceSub, Array.replicate_succ, Array.replicate_zero, List.push_toArray, List.append_toArray, List.nil_append, List.cons_append]
  gi_wp2_with (refine ⟨trivial, ?_⟩; gi_at_call 88; refine (backward_in _ _ trivial rfl _ _ _ _).mono ?_; rintro e w' ⟨rfl, rfl⟩)
  have bP : Boxed ((((w.alloc (.cells #[.int .i64 a0] 46)).alloc (.cells #[.slice A2 l2.length c2] 24)).alloc (.cells #[.slice none 0 0] 24)).alloc (.cells #[.slice A1 l1.length c1] 24)) w.heap.size 46 (.int .i64 a0) := (((Boxed.new w _ _).alloc _).alloc _).alloc _
  have bX := ((Boxed.new (w.alloc (.cells #[.int .i64 a0] 46)) 24 (.slice A2 l2.length c2)).alloc (.cells #[.slice none 0 0] 24)).alloc (.cells #[.slice A1 l1.length c1] 24)
  have bO := (Boxed.new ((w.alloc (.cells #[.int .i64 a0] 46)).alloc (.cells #[.slice A2 l2.length c2] 24)) 24 (.slice none 0 0)).alloc (.cells #[.slice A1 l1.length c1] 24)
  have bS := Boxed.new (((w.alloc (.cells #[.int .i64 a0] 46)).alloc (.cells #[.slice A2 l2.length c2] 24)).alloc (.cells #[.slice none 0 0] 24)) 24 (.slice A1 l1.length c1)
  simp only [World.size_alloc] at bX bO bS
  have hB0 : Below w.heap.size w ((((w.alloc (.cells #[.int .i64 a0] 46)).alloc (.cells #[.slice A2 l2.length c2] 24)).alloc (.cells #[.slice none 0 0] 24)).alloc (.cells #[.slice A1 l1.length c1] 24)) := by
    repeat (first | exact Below.refl _ _ | apply below_alloc)
  have hsz : ((((w.alloc (.cells #[.int .i64 a0] 46)).alloc (.cells #[.slice A2 l2.length c2] 24)).alloc (.cells #[.slice none 0 0] 24)).alloc (.cells #[.slice A1 l1.length c1] 24)).heap.size = w.heap.size + 4 := by simp
  obtain ⟨W0, hW0⟩ : ∃ W0, ((((w.alloc (.cells #[.int .i64 a0] 46)).alloc (.cells #[.slice A2 l2.length c2] 24)).alloc (.cells #[.slice none 0 0] 24)).alloc (.cells #[.slice A1 l1.length c1] 24)) = W0 := ⟨_, rfl⟩
  rw [hW0] at bP bX bO bS hB0 hsz ⊢
  clear hW0
  have hC : ∀ W', Below w.heap.size W0 W' → ∀ j, j < l1.length → ∃ ad, A1 = some ad ∧ W'.cell? (ad.add j) = some (.int .i64 ((⟨l1.getD j 0, InR.get rf (by omega) j⟩ : Rg a0).1)) := fun W' hW' j hj => by
    obtain ⟨ad, e, h⟩ := Kd.at_int (Kd.C_below hr1 (hB0.trans hW')) (j : Int) (by omega) (by omega)
    exact ⟨ad, e, by simpa [rd] using h⟩
  refine wpIn_rangeFunc_ownG rfl (by omega) (gf := 106) (lb := #[.pointer (some ⟨w.heap.size + 1 + 1 + 1, 0, none⟩)]) rfl trivial (enters_of Try.func106 (by kernel_rfl) rfl)
    (backward_stops (α := Rg a0) Subtype.val (fun j => ⟨l1.getD j 0, InR.get rf (by omega) j⟩) Fence.wide 2 trivial rfl (by omega) (w.heap.size + 1 + 1 + 1) w.heap.size l1.length c1 A1 hlen W0 (by omega) (by omega) bS hC) KpB.trans (KpB.put (by omega) (by omega)) (Below.refl _ _) (fun _ => rfl)
    (fun pre W => ((Boxed W w.heap.size 46 (.int .i64 a0) ∧ Boxed W (w.heap.size + 1) 24 (.slice A2 l2.length c2) ∧ W0.heap.size ≤ W.heap.size) ∧ (∃ v, Boxed W (w.heap.size + 1 + 1) 24 v ∧ W.ownsRow W0.heap.size 2 1 v (compW a0 l2 pre).length (encs (Value.int .i64) (compW a0 l2 pre)) ∧ True)) ∧ Below w.heap.size w W)
    (fun _ _ _ => False)
    (OwnFrom.and (OwnFrom.and (Own.from (fun s A B row hs hg hr => ⟨boxed_own _ _ (fun _ => _) s A B row hs.1 hg hr, boxed_own _ _ (fun _ => _) s A B row hs.2.1 hg hr, Nat.le_trans hs.2.2 hg.size⟩) _) (Own.from (holdsRow_own _ _ _ _ _ (fun pre => (compW a0 l2 pre).length) (fun pre => encs (Value.int .i64) (compW a0 l2 pre)) (fun _ _ => True)) _)) (ownFrom_below (Nat.le_refl _) (by omega)))
    (fun _ _ _ _ _ hs _ _ => hs)
    ⟨⟨⟨bP, bX, Nat.le_refl _⟩, _, bO, by simp [compW, encs, World.ownsRow], trivial⟩, hB0⟩
    (fun x => { tmps := #[.int .i64 a0, .slice A1 l1.length c1, .slice A2 l2.length c2, .pointer (some ⟨w.heap.size, 0, none⟩), undef, .pointer (some ⟨w.heap.size + 1, 0, none⟩), .slice none 0 0, .pointer (some ⟨w.heap.size + 1 + 1, 0, none⟩), undef, .int .i64 x.2.1, .slice A1 l1.length c1, .func (.func 106) #[] #[.pointer (some ⟨w.heap.size + 1 + 1 + 1, 0, none⟩)], .int .i64 x.1, .int .i64 x.2.1, undef, undef, undef, undef, undef, undef, undef, undef, undef], defers := [] }) ?assign ?body ?done ?stop
  case assign =>
    intro l x W K hK
    gi_wp2
    exact hK
  case body =>
    rintro l pre x W ⟨⟨⟨hP, hX, hsW⟩, v, hO, hrow, _⟩, hB⟩ hlt
    have HR : Kd.R (Kd.int .i64) 2 W W0.heap.size (fun _ => True) v (compW a0 l2 pre) := Kd.R_of_own hrow (fun _ _ => trivial)
    obtain ⟨A, c, rfl⟩ := Kd.R_slice HR
    have cP := hP.cell
    have cX := hX.cell
    have cO := hO.cell
    have fO := hO.frozen
    have cP2 := (hP.alloc (.cells #[.int .i64 1] 2)).cell
    have cX2 := (hX.alloc (.cells #[.int .i64 1] 2)).cell
    have cO2 := (hO.alloc (.cells #[.int .i64 1] 2)).cell
    have hlW := compW_len a0 l2 lg pre
    have hrW := compW_inR (show 0 < a0 by omega) l2 pre
    have hlM := mulL_len a0 (compW a0 l2 pre) l2
    obtain ⟨k1, hk1⟩ := (impl_product hp hp2 (by omega) (by omega) hrW rg).rounds
    obtain ⟨k2, hk2⟩ := (impl_add (c := x.2.1) (f := mulL a0 (compW a0 l2 pre) l2) (g := [1]) hp hp2 (by omega) (by simp) (mulL_inR (show 0 < a0 by omega) _ _) (InR.one (by omega)) x.2.2.1 (by have := x.2.2.2; omega)).rounds
    have hP1 := fun W' (hW : Below W.heap.size W W') => impl_field_product.calls k1 a0 A c (compW a0 l2 pre) A2 c2 l2 _ W' (Kd.C_below (Kd.R_reads' HR).2.2 hW) (Kd.R_reads' HR).2.1 (Kd.C_below hr2 (hB.trans (hW.mono hB.size))) hc2 hk1
    have hP2 := fun W' A' c' B' b' (hc' : (mulL a0 (compW a0 l2 pre) l2).length ≤ c') (hC1 : Kd.C (Kd.int .i64) W' A' (mulL a0 (compW a0 l2 pre) l2).length (mulL a0 (compW a0 l2 pre) l2)) (hb' : ([1] : List Int).length ≤ b') (hC2 : Kd.C (Kd.int .i64) W' B' ([1] : List Int).length [1]) => impl_field_add.calls k2 a0 A' c' _ B' b' [1] x.2.1 _ W' hC1 hc' hC2 hb' hk2
    clear hk1 hk2
    have hmx : Try.prog.follows .mixedOrders = true := by kernel_rfl
    have HS : ∀ W', Below W.heap.size W W' → W'.cell? ⟨w.heap.size, 0, none⟩ = some (.int .i64 a0) ∧ W'.cell? ⟨w.heap.size + 1, 0, none⟩ = some (.slice A2 l2.length c2) ∧ W'.cell? ⟨w.heap.size + 1 + 1, 0, none⟩ = some (.slice A (compW a0 l2 pre).length c) := fun W' h =>
      ⟨Boxed.cell ((h.block _ hP.lt).trans hP), Boxed.cell ((h.block _ hX.lt).trans hX), Boxed.cell ((h.block _ hO.lt).trans hO)⟩
    have hbD : Below W.heap.size W W.drew := (Below.refl _ _).drew
    gi_wp2
    refine startIn_ (n := 9) (S := fun w' => w'.cell? ⟨w.heap.size, 0, none⟩ = some (.int .i64 a0) ∧ w'.cell? ⟨w.heap.size + 1, 0, none⟩ = some (.slice A2 l2.length c2) ∧ w'.cell? ⟨w.heap.size + 1 + 1, 0, none⟩ = some (.slice A (compW a0 l2 pre).length c)) (ds := [8]) #[false, false, false, false, false, false, false, false, false] hmx (by kernel_rfl) (fun ⟨_, _, h⟩ => h) rfl rfl (HS _ hbD) (fun hHeld => ?_)
    refine take_ (i := 0) (N := some 14) (v := ?_) (a' := ?_) #[true, false, false, false, false, false, false, false, false] rfl rfl (by kernel_rfl) (fun _ _ _ h => h) (Or.inl ⟨by rfl, ?_⟩) hHeld ?_ ?_
    rotate_left
    · rintro w' ⟨s0, s1, s2⟩
      go_simp
      with_reducible rfl
    rotate_left
    · simp only [Act.put, List.setIfInBounds_toArray, List.set_cons_zero, List.set_cons_succ, i64_w, i32_w]
      rfl
    refine take_ (i := 1) (N := some 15) (v := ?_) (a' := ?_) #[true, true, false, false, false, false, false, false, false] rfl rfl (by kernel_rfl) (fun _ _ _ h => h) (Or.inl ⟨by rfl, ?_⟩) hHeld ?_ ?_
    rotate_left
    · rintro w' ⟨s0, s1, s2⟩
      go_simp
      with_reducible rfl
    rotate_left
    · simp only [Act.put, List.setIfInBounds_toArray, List.set_cons_zero, List.set_cons_succ, i64_w, i32_w]
      rfl
    refine take_ (i := 2) (N := some 16) (v := ?_) (a' := ?_) #[true, true, true, false, false, false, false, false, false] rfl rfl (by kernel_rfl) (fun _ _ _ h => h) (Or.inl ⟨by rfl, ?_⟩) hHeld ?_ ?_
    rotate_left
    · rintro w' ⟨s0, s1, s2⟩
      go_simp
      with_reducible rfl
    rotate_left
    · simp only [Act.put, List.setIfInBounds_toArray, List.set_cons_zero, List.set_cons_succ, i64_w, i32_w]
      rfl
    refine take_ (i := 3) (N := some 17) (v := ?_) (a' := ?_) #[true, true, true, true, false, false, false, false, false] rfl rfl (by kernel_rfl) (fun _ _ _ h => h) (Or.inl ⟨by rfl, ?_⟩) hHeld ?_ ?_
    rotate_left
    · rintro w' ⟨s0, s1, s2⟩
      go_simp
      with_reducible rfl
    rotate_left
    · simp only [Act.put, List.setIfInBounds_toArray, List.set_cons_zero, List.set_cons_succ, i64_w, i32_w]
      rfl
    refine pure_ (i := 6) (N := some 20) (v := ?_) (a' := ?_) #[true, true, true, true, false, false, true, false, false] rfl rfl (by kernel_rfl) (fun _ _ _ h => h) (Or.inl ⟨by rfl, ?_⟩) ?_ ?_
    rotate_left
    · intro w'
      go_simp
      with_reducible rfl
    rotate_left
    · simp only [Act.put, List.setIfInBounds_toArray, List.set_cons_zero, List.set_cons_succ, i64_w, i32_w]
      rfl
    refine two_ (i := 4) (j := 5) (Ni := some 18) (Nj := some 19) #[true, true, true, true, true, false, true, false, false] #[true, true, true, true, false, true, true, false, false] rfl rfl rfl rfl (by kernel_rfl) (by decide) (by decide) (fun K hK => ?_) (fun K hK => ?_)
    · skip
      refine goes_ Try.func90 (by kernel_rfl) rfl #[.int .i64 a0, .slice A (compW a0 l2 pre).length c, .slice A2 l2.length c2] (by rfl) rfl rfl (by (try simp only [List.map_toArray, List.map_cons, List.map_nil]); first | done | rfl | (simp only [List.length_drop, List.length_take]; rfl)) ?_
      refine (hP1 _ hbD).mono ?_
      rintro e w3 ⟨v1, rfl, hR1, hb3⟩
      obtain ⟨A', cc, rfl⟩ := Kd.R_slice hR1
      have hS3 := HS _ (below_step hbD hb3)
      refine ⟨_, rfl, ?_⟩
      refine hK.out _ _ hS3 (fun hHeld => ?_)
      clear hK K
      refine norm_ (a' := ?_) ?_ ?_
      rotate_left
      · show Act.put _ (some 18) _ = _
        simp only [Act.put, List.setIfInBounds_toArray, List.set_cons_zero, List.set_cons_succ, i64_w, i32_w]
        rfl
      refine one_ (i := 5) (N := some 19) #[true, true, true, true, true, true, true, false, false] rfl rfl (by kernel_rfl) (by decide) (fun K hK => ?_)
      refine Kd.R_lit_step (Kd.int .i64) 0 2 ?hg (N := 19) ?hd (xs := ([1] : List Int)) (inner := [.int .i64 1]) (ok := fun _ => True) (okp := fun _ => True) ?hr ?hp (fun _ hk => hk) trivial (Below.refl 0 _) (Nat.zero_le _) (by simp) ?_
      case hd => rfl
      case hg => rfl
      case hr => first | (go_simp; done) | (go_simp; rfl)
      case hp => exact (Reps.one (show Kd.M (Kd.int .i64) _ _ _ 1 [.int .i64 1] from rfl) (Reps.none _ _))
      intro v2 w4 hR2 hb0_ hg4 hnew4
      clear hb0_
      have hb4 := grown_none hg4
      obtain ⟨B', bb, rfl⟩ := Kd.R_slice hR2
      have hS4 := HS _ (below_step (below_step hbD hb3) hb4)
      refine hK.out _ _ hS4 (fun hHeld => ?_)
      clear hK K
      refine norm_ (a' := ?_) ?_ ?_
      rotate_left
      · show Act.put _ (some 19) _ = _
        simp only [Act.put, List.setIfInBounds_toArray, List.set_cons_zero, List.set_cons_succ, i64_w, i32_w]
        rfl
      have hbX := below_step (below_step hbD hb3) hb4
      have hC1 := Kd.C_below (Kd.R_reads' hR1).2.2 hb4
      have hl1 := (Kd.R_reads' hR1).2.1
      have hC2 := (Kd.R_reads' hR2).2.2
      have hl2 := (Kd.R_reads' hR2).2.1
      refine one_ (i := 7) (N := some 21) #[true, true, true, true, true, true, true, true, false] rfl rfl (by kernel_rfl) (by decide) (fun K hK => ?_)
      refine goes_ Try.func89 (by kernel_rfl) rfl #[.int .i64 a0, .slice A' (mulL a0 (compW a0 l2 pre) l2).length cc, .slice B' ([1] : List Int).length bb, .int .i64 x.2.1] (by rfl) rfl rfl (by (try simp only [List.map_toArray, List.map_cons, List.map_nil]); first | done | rfl | (simp only [List.length_drop, List.length_take]; rfl)) ?_
      refine (hP2 _ _ _ _ _ hl1 hC1 hl2 hC2).mono ?_
      rintro e w5 ⟨v5, rfl, hR5, hb5⟩
      obtain ⟨A5, c5, rfl⟩ := Kd.R_slice hR5
      have hbY := below_step hbX hb5
      have hS5 := HS _ hbY
      refine ⟨_, rfl, ?_⟩
      refine hK.out _ _ hS5 (fun hHeld => ?_)
      clear hK K
      refine norm_ (a' := ?_) ?_ ?_
      rotate_left
      · show Act.put _ (some 21) _ = _
        simp only [Act.put, List.setIfInBounds_toArray, List.set_cons_zero, List.set_cons_succ, i64_w, i32_w]
        rfl
      have hO5 : Boxed w5 (w.heap.size + 1 + 1) 24 (.slice A (compW a0 l2 pre).length c) := (hbY.block _ hO.lt).trans hO
      have cO5 := hO5.cell
      have fO5 := hO5.frozen
      refine last_ (i := 8) (N := none) #[true, true, true, true, true, true, true, true, true] rfl rfl (by kernel_rfl) (by decide) (fun K hK => ?_)
      refine skip_ (w1 := w5.setCell ⟨w.heap.size + 1 + 1, 0, none⟩ (.slice A5 (addL a0 (mulL a0 (compW a0 l2 pre) l2) [1] x.2.1).length c5)) (by rfl) rfl ?_ ?_
      · first | (go_simp; done) | (go_simp; rfl)
      refine hK.out _ _ ?_
      clear hK K
      refine done_ (by kernel_rfl) ?_
      have hown := Kd.own_of_R (Kd.R_lower hR5 (show W0.heap.size ≤ _ from Nat.le_trans hsW hbX.size))
      refine ⟨((keepsOthers_below hbY).trans (KeepsOthers.setCell _ _ _)).from _, ⟨(hbY.mono hB.size).setCell (p := ⟨w.heap.size + 1 + 1, 0, none⟩) (Nat.le_add_right _ 2) _, (Below.heap_setCell _ _ _ _ (by simp)).trans (hbY.block _ (by omega))⟩, ⟨⟨Boxed.other ((hbY.block _ hP.lt).trans hP) (by omega) _, Boxed.other ((hbY.block _ hX.lt).trans hX) (by omega) _, Nat.le_trans (Nat.le_trans hsW hbY.size) (KeepsOthers.setCell _ _ _).size⟩, _, Boxed.set _ hO5, ?_, trivial⟩, (hB.trans (hbY.mono hB.size)).setCell (p := ⟨w.heap.size + 1 + 1, 0, none⟩) (Nat.le_add_right _ 2) _⟩
      rw [compW_snoc]
      exact hown.kept (grownBy_setCell' w5 _ _) (.inr (hO5.not_row (by decide) hown).symm)
    · skip
      refine Kd.R_lit_step (Kd.int .i64) 0 2 ?hg (N := 19) ?hd (xs := ([1] : List Int)) (inner := [.int .i64 1]) (ok := fun _ => True) (okp := fun _ => True) ?hr ?hp (fun _ hk => hk) trivial (Below.refl 0 _) (Nat.zero_le _) (by simp) ?_
      case hd => rfl
      case hg => rfl
      case hr => first | (go_simp; done) | (go_simp; rfl)
      case hp => exact (Reps.one (show Kd.M (Kd.int .i64) _ _ _ 1 [.int .i64 1] from rfl) (Reps.none _ _))
      intro v2 w4 hR2 hb0_ hg4 hnew4
      clear hb0_
      have hb4 := grown_none hg4
      obtain ⟨B', bb, rfl⟩ := Kd.R_slice hR2
      have hS4 := HS _ (below_step hbD hb4)
      refine hK.out _ _ hS4 (fun hHeld => ?_)
      clear hK K
      refine norm_ (a' := ?_) ?_ ?_
      rotate_left
      · show Act.put _ (some 19) _ = _
        simp only [Act.put, List.setIfInBounds_toArray, List.set_cons_zero, List.set_cons_succ, i64_w, i32_w]
        rfl
      refine one_ (i := 4) (N := some 18) #[true, true, true, true, true, true, true, false, false] rfl rfl (by kernel_rfl) (by decide) (fun K hK => ?_)
      refine goes_ Try.func90 (by kernel_rfl) rfl #[.int .i64 a0, .slice A (compW a0 l2 pre).length c, .slice A2 l2.length c2] (by rfl) rfl rfl (by (try simp only [List.map_toArray, List.map_cons, List.map_nil]); first | done | rfl | (simp only [List.length_drop, List.length_take]; rfl)) ?_
      refine (hP1 _ (below_step hbD hb4)).mono ?_
      rintro e w3 ⟨v1, rfl, hR1, hb3⟩
      obtain ⟨A', cc, rfl⟩ := Kd.R_slice hR1
      have hS3 := HS _ (below_step (below_step hbD hb4) hb3)
      refine ⟨_, rfl, ?_⟩
      refine hK.out _ _ hS3 (fun hHeld => ?_)
      clear hK K
      refine norm_ (a' := ?_) ?_ ?_
      rotate_left
      · show Act.put _ (some 18) _ = _
        simp only [Act.put, List.setIfInBounds_toArray, List.set_cons_zero, List.set_cons_succ, i64_w, i32_w]
        rfl
      have hbX := below_step (below_step hbD hb4) hb3
      have hC1 := (Kd.R_reads' hR1).2.2
      have hl1 := (Kd.R_reads' hR1).2.1
      have hC2 := Kd.C_below (Kd.R_reads' hR2).2.2 hb3
      have hl2 := (Kd.R_reads' hR2).2.1
      refine one_ (i := 7) (N := some 21) #[true, true, true, true, true, true, true, true, false] rfl rfl (by kernel_rfl) (by decide) (fun K hK => ?_)
      refine goes_ Try.func89 (by kernel_rfl) rfl #[.int .i64 a0, .slice A' (mulL a0 (compW a0 l2 pre) l2).length cc, .slice B' ([1] : List Int).length bb, .int .i64 x.2.1] (by rfl) rfl rfl (by (try simp only [List.map_toArray, List.map_cons, List.map_nil]); first | done | rfl | (simp only [List.length_drop, List.length_take]; rfl)) ?_
      refine (hP2 _ _ _ _ _ hl1 hC1 hl2 hC2).mono ?_
      rintro e w5 ⟨v5, rfl, hR5, hb5⟩
      obtain ⟨A5, c5, rfl⟩ := Kd.R_slice hR5
      have hbY := below_step hbX hb5
      have hS5 := HS _ hbY
      refine ⟨_, rfl, ?_⟩
      refine hK.out _ _ hS5 (fun hHeld => ?_)
      clear hK K
      refine norm_ (a' := ?_) ?_ ?_
      rotate_left
      · show Act.put _ (some 21) _ = _
        simp only [Act.put, List.setIfInBounds_toArray, List.set_cons_zero, List.set_cons_succ, i64_w, i32_w]
        rfl
      have hO5 : Boxed w5 (w.heap.size + 1 + 1) 24 (.slice A (compW a0 l2 pre).length c) := (hbY.block _ hO.lt).trans hO
      have cO5 := hO5.cell
      have fO5 := hO5.frozen
      refine last_ (i := 8) (N := none) #[true, true, true, true, true, true, true, true, true] rfl rfl (by kernel_rfl) (by decide) (fun K hK => ?_)
      refine skip_ (w1 := w5.setCell ⟨w.heap.size + 1 + 1, 0, none⟩ (.slice A5 (addL a0 (mulL a0 (compW a0 l2 pre) l2) [1] x.2.1).length c5)) (by rfl) rfl ?_ ?_
      · first | (go_simp; done) | (go_simp; rfl)
      refine hK.out _ _ ?_
      clear hK K
      refine done_ (by kernel_rfl) ?_
      have hown := Kd.own_of_R (Kd.R_lower hR5 (show W0.heap.size ≤ _ from Nat.le_trans hsW hbX.size))
      refine ⟨((keepsOthers_below hbY).trans (KeepsOthers.setCell _ _ _)).from _, ⟨(hbY.mono hB.size).setCell (p := ⟨w.heap.size + 1 + 1, 0, none⟩) (Nat.le_add_right _ 2) _, (Below.heap_setCell _ _ _ _ (by simp)).trans (hbY.block _ (by omega))⟩, ⟨⟨Boxed.other ((hbY.block _ hP.lt).trans hP) (by omega) _, Boxed.other ((hbY.block _ hX.lt).trans hX) (by omega) _, Nat.le_trans (Nat.le_trans hsW hbY.size) (KeepsOthers.setCell _ _ _).size⟩, _, Boxed.set _ hO5, ?_, trivial⟩, (hB.trans (hbY.mono hB.size)).setCell (p := ⟨w.heap.size + 1 + 1, 0, none⟩) (Nat.le_add_right _ 2) _⟩
      rw [compW_snoc]
      exact hown.kept (grownBy_setCell' w5 _ _) (.inr (hO5.not_row (by decide) hown).symm)
  case done =>
    rintro D ys W hD rfl ⟨⟨⟨hP, hX, hsW⟩, v, hO, hrow, _⟩, hB⟩ hK
    rw [compW_all (show 0 < a0 by omega) l1 l2 rf] at hrow
    have cO := hO.cell
    gi_wp2
    refine ⟨by simp, .inl ⟨_, _, rfl, run_takeDeferred hK, ?_⟩⟩
    exact ⟨_, results_tmp rfl _ _ _, _, rfl, Kd.R_lower (Kd.R_of_own (ownsRow_putObj hrow _ hK rfl) (fun _ _ => trivial)) (by omega), hB.trans (belowK_b (w := w) (Nat.le_refl _) W D _ _ (by omega) hK rfl rfl)⟩
  case stop =>
    rintro D c pre W _ _ h _
    exact h.elim
end Go.Proofs.Ythiignohbooelaa.H
