/- Joined texts of a claim: the printed functions and what is proved of them. -/
import Derived.Test.YtlcbcbnnphehnaaMef1
import Derived.Test.YtlcbcbnnphehnaaMf4
import Derived.Test.YtlcbcbnnphehnaaMf2
/- Layer 1, part 5: division. -/
set_option linter.unusedVariables false
set_option linter.unusedSimpArgs false
namespace Go.Proofs.Ytlcbcbnnphehnaa.H
open Go.RowKit Go.Proofs.YtlcbcbnnphehnaaW.PrintWords Go.Proofs.YtlcbcbnnphehnaaW.PrintLast Go.Proofs.Ytlcbcbnnphehnaa.Num

/-- q times g, put a places up, is taken away: places j, .. , d of them -/
def dv1 (p q : Int) (g : List Int) (a : Nat) : List Int → Nat → Nat → List Int
  | r, _, 0 => r
  | r, j, d + 1 => dv1 p q g a (r.set (a + j) ((r.getD (a + j) 0 - q * g.getD j 0) % p)) (j + 1) d
def dvR (p iv : Int) (g : List Int) : Nat → List Int → List Int → List Int × List Int
  | 0, q, r => (q, r)
  | m + 1, q, r => dvR p iv g m (q.set m (r.getD (m + g.length - 1) 0 * iv % p)) (dv1 p (r.getD (m + g.length - 1) 0 * iv % p) g m r 0 g.length)
def divL (p : Int) (f g : List Int) : List Int × List Int :=
  if f.length < g.length then ([], f) else
    ((dvR p (inv p (g.getD (g.length - 1) 0)) g (f.length - g.length + 1) (List.replicate (f.length - g.length + 1) 0) f).1,
     trimL (dvR p (inv p (g.getD (g.length - 1) 0)) g (f.length - g.length + 1) (List.replicate (f.length - g.length + 1) 0) f).2)
theorem dv1_len (p q : Int) (g : List Int) (a : Nat) : ∀ d j r, (dv1 p q g a r j d).length = r.length
  | 0, _, _ => rfl
  | d + 1, j, r => by simp [dv1, dv1_len p q g a d]
theorem dv1_inR {p : Int} (hp : 0 < p) (q : Int) (g : List Int) (a : Nat) : ∀ d j r, InR p r → InR p (dv1 p q g a r j d)
  | 0, _, _, h => h
  | d + 1, j, r, h => dv1_inR hp q g a d (j + 1) _ (h.set _ (emod_bd hp))
theorem dvR_len (p iv : Int) (g : List Int) : ∀ m q r, (dvR p iv g m q r).1.length = q.length ∧ (dvR p iv g m q r).2.length = r.length
  | 0, _, _ => ⟨rfl, rfl⟩
  | m + 1, q, r => by have := dvR_len p iv g m (q.set m (r.getD (m + g.length - 1) 0 * iv % p)) (dv1 p (r.getD (m + g.length - 1) 0 * iv % p) g m r 0 g.length); simpa [dvR, dv1_len] using this
theorem dvR_inR {p : Int} (hp : 0 < p) (iv : Int) (g : List Int) : ∀ m q r, InR p q → InR p r → InR p (dvR p iv g m q r).1 ∧ InR p (dvR p iv g m q r).2
  | 0, _, _, h, h' => ⟨h, h'⟩
  | m + 1, q, r, h, h' => dvR_inR hp iv g m _ _ (h.set _ (emod_bd hp)) (dv1_inR hp _ g m _ _ _ h')
theorem dvR_top (p iv : Int) (g : List Int) (t : Nat) : ∀ m q r, m ≤ t → (dvR p iv g m q r).1.getD t 0 = q.getD t 0
  | 0, _, _, _ => rfl
  | m + 1, q, r, h => by
    rw [dvR, dvR_top p iv g t m _ _ (by omega)]
    simp only [List.getD_eq_getElem?_getD]
    rw [List.getElem?_set_ne (by omega)]

theorem spec_dstep {p : Int} {g r q : List Int} (k a j : Nat) (n iv c : Int) (hn : n = g.length) (hp : 2 ≤ p) (hp2 : p ≤ 10007) (hj : j < g.length) (hL : a + j < r.length) (h5 : a + j ≤ 100000)
    (hb : 0 ≤ c * g.getD j 0 ∧ c * g.getD j 0 ≤ 1000700000) (ha : 0 ≤ r.getD (a + j) 0 ∧ r.getD (a + j) 0 ≤ 100000) :
    spec_l01Divide.l1 (k + 1) p g r n q iv (a : Int) c (j : Int) = spec_l01Divide.l1 k p g (r.set (a + j) ((r.getD (a + j) 0 - c * g.getD j 0) % p)) n q iv (a : Int) c ((j + 1 : Nat) : Int) := by
  subst hn
  have hw : wrap64 ((a : Int) + (j : Int)) = ((a + j : Nat) : Int) := by rw [w64 (by omega) (by omega)]; omega
  have q1 : (j : Int) < (g.length : Int) := by omega
  have q2 : (0 : Int) ≤ ((a + j : Nat) : Int) := by omega
  have q3 : ((a + j : Nat) : Int) < (r.length : Int) := by omega
  have q6 : (0 : Int) ≤ (j : Int) := by omega
  have w1 : wrap64 (c * g.getD j 0) = c * g.getD j 0 := w64 (by omega) (by omega)
  have w2 : wrap64 (r.getD (a + j) 0 - c * g.getD j 0) = r.getD (a + j) 0 - c * g.getD j 0 := w64 (by omega) (by omega)
  have w3 : wrap64 ((j : Int) + 1) = ((j + 1 : Nat) : Int) := wn (by omega)
  have w4 : spec_l01Mod.f p (r.getD (a + j) 0 - c * g.getD j 0) = some ((r.getD (a + j) 0 - c * g.getD j 0) % p) := spec_mod (by omega) (by omega)
  simp only [spec_l01Divide.l1, hw]
  rw [if_pos q1, if_pos q2, if_pos q3, if_pos q6, if_pos q1, rd_nat, rd_nat, w1, w2, w3, w4, Int.toNat_natCast, Option.bind_some]

theorem impl_dstep {p : Int} {g r q : List Int} (k a j : Nat) (hp : 2 ≤ p) (hp2 : p ≤ 10007) (hj : j < g.length) (hL : a + j < r.length) (h5 : a + j ≤ 100000) (haq : a < q.length)
    (hb : 0 ≤ q.getD a 0 * g.getD j 0 ∧ q.getD a 0 * g.getD j 0 ≤ 1000700000) (ha : 0 ≤ r.getD (a + j) 0 ∧ r.getD (a + j) 0 ≤ 100000) :
    impl_field_divide.l1 (k + 1) p g r q (a : Int) g (g.length : Int) (j : Int) = impl_field_divide.l1 k p g (r.set (a + j) ((r.getD (a + j) 0 - q.getD a 0 * g.getD j 0) % p)) q (a : Int) g (g.length : Int) ((j + 1 : Nat) : Int) := by
  have hw : wrap64 ((a : Int) + (j : Int)) = ((a + j : Nat) : Int) := by rw [w64 (by omega) (by omega)]; omega
  have q1 : (j : Int) < (g.length : Int) := by omega
  have q2 : (0 : Int) ≤ ((a + j : Nat) : Int) := by omega
  have q3 : ((a + j : Nat) : Int) < (r.length : Int) := by omega
  have q6 : (0 : Int) ≤ (j : Int) := by omega
  have q7 : (0 : Int) ≤ (a : Int) := by omega
  have q8 : (a : Int) < (q.length : Int) := by omega
  have w1 : wrap64 (q.getD a 0 * g.getD j 0) = q.getD a 0 * g.getD j 0 := w64 (by omega) (by omega)
  have w2 : wrap64 (r.getD (a + j) 0 - q.getD a 0 * g.getD j 0) = r.getD (a + j) 0 - q.getD a 0 * g.getD j 0 := w64 (by omega) (by omega)
  have w3 : wrap64 ((j : Int) + 1) = ((j + 1 : Nat) : Int) := wn (by omega)
  have w4 : impl_field_mod.f p (r.getD (a + j) 0 - q.getD a 0 * g.getD j 0) = some ((r.getD (a + j) 0 - q.getD a 0 * g.getD j 0) % p) := impl_mod (by omega) (by omega)
  simp only [impl_field_divide.l1, hw]
  rw [if_pos q1, if_pos q6, if_pos q1, if_pos q2, if_pos q3, if_pos q7, if_pos q8, rd_nat, rd_nat, rd_nat, w1, w2, w3, w4, Int.toNat_natCast, Option.bind_some]

theorem wm {m : Nat} (h : m ≤ 1000000) : wrap64 ((m : Int) - 1) = (m : Int) - 1 := w64 (by omega) (by omega)

theorem spec_divide {p : Int} {f g : List Int} (hp : 2 ≤ p) (hp2 : p ≤ 10007) (hf : f.length ≤ 1000) (hg : g.length ≤ 1000) (h0 : 0 < g.length) (rf : InR p f) (rg : InR p g) :
    Ev (fun k => spec_l01Divide.f k p f g) (trimL (divL p f g).1, (divL p f g).2) := by
  have inner : ∀ (a : Nat) (c iv : Int) (q : List Int) (res : List Int × List Int), a ≤ 1000 → 0 ≤ c ∧ c < p → ∀ d j (r : List Int), j + d = g.length → a + g.length ≤ r.length → InR p r →
      Ev (fun k => spec_l01Divide.l0 k p g (dv1 p c g a r j d) (g.length : Int) q iv ((a : Int) - 1)) res → Ev (fun k => spec_l01Divide.l1 k p g r (g.length : Int) q iv (a : Int) c (j : Int)) res := by
    intro a c iv q res ha1 hc d
    induction d with
    | zero =>
      intro j r h1 h2 h3 ⟨K, h⟩
      refine ⟨K + 1, fun k hk => ?_⟩
      obtain ⟨k, rfl⟩ : ∃ m, k = m + 1 := ⟨k - 1, by omega⟩
      have e := h k (by omega)
      simp only [dv1] at e
      simp only [spec_l01Divide.l1]
      rw [if_neg (by omega), wm (by omega), e]
    | succ d ih =>
      intro j r h1 h2 h3 h
      obtain ⟨K, h⟩ := ih (j + 1) (r.set (a + j) ((r.getD (a + j) 0 - c * g.getD j 0) % p)) (by omega) (by simpa using h2) (h3.set _ (emod_bd (by omega))) h
      refine ⟨K + 1, fun k hk => ?_⟩
      obtain ⟨k, rfl⟩ : ∃ m, k = m + 1 := ⟨k - 1, by omega⟩
      have e := h k (by omega)
      simp only at e
      have hb := mul_bd2 hp2 hc (y := g.getD j 0) (by have := rg.get (by omega) j; omega)
      have ha := h3.get (by omega) (a + j)
      exact (spec_dstep k a j _ iv c rfl hp hp2 (by omega) (by omega) (by omega) hb ⟨ha.1, by omega⟩).trans e
  have outer : ∀ (iv : Int), 0 ≤ iv ∧ iv < p → ∀ m (q r : List Int), m ≤ 1000 → m ≤ q.length → (m = 0 ∨ m + g.length - 1 ≤ r.length) → q.length ≤ 1001 → r.length ≤ 1001 → InR p q → InR p r →
      Ev (fun k => spec_l01Divide.l0 k p g r (g.length : Int) q iv ((m : Int) - 1)) (trimL (dvR p iv g m q r).1, trimL (dvR p iv g m q r).2) := by
    intro iv hiv m
    induction m with
    | zero =>
      intro q r h1 h2 h3 h4 h5 h6 h7
      obtain ⟨K, h⟩ := spec_trim q (by omega)
      obtain ⟨K', h'⟩ := spec_trim r (by omega)
      refine ⟨K + K' + 1, fun k hk => ?_⟩
      obtain ⟨k, rfl⟩ : ∃ m, k = m + 1 := ⟨k - 1, by omega⟩
      have e := h k (by omega)
      have e' := h' k (by omega)
      simp only at e e'
      simp only [spec_l01Divide.l0]
      rw [if_neg (by omega), e, Option.bind_some, e']
      rfl
    | succ m ih =>
      intro q r h1 h2 h3 h4 h5 h6 h7
      have hr := h7.get (by omega) (m + g.length - 1)
      have hb := mul_bd2 hp2 hr (y := iv) (by omega)
      have hcb := emod_bd (x := r.getD (m + g.length - 1) 0 * iv) (p := p) (by omega)
      obtain ⟨K, h⟩ := inner m _ iv (q.set m (r.getD (m + g.length - 1) 0 * iv % p)) _ (by omega) hcb g.length 0 r (by omega) (by omega) h7
        (ih (q.set m (r.getD (m + g.length - 1) 0 * iv % p)) (dv1 p (r.getD (m + g.length - 1) 0 * iv % p) g m r 0 g.length) (by omega) (by simp; omega) (by rw [dv1_len]; omega) (by simpa using h4) (by rw [dv1_len]; exact h5) (h6.set _ hcb) (dv1_inR (by omega) _ g m _ _ _ h7))
      refine ⟨K + 1, fun k hk => ?_⟩
      obtain ⟨k, rfl⟩ : ∃ m, k = m + 1 := ⟨k - 1, by omega⟩
      have e := h k (by omega)
      simp only [Int.natCast_zero] at e
      have hm : ((m + 1 : Nat) : Int) - 1 = (m : Int) := by omega
      have hw : wrap64 (wrap64 ((m : Int) + (g.length : Int)) - 1) = ((m + g.length - 1 : Nat) : Int) := by rw [w64 (x := (m : Int) + (g.length : Int)) (by omega) (by omega), w64 (by omega) (by omega)]; omega
      have q1 : (m : Int) ≥ 0 := by omega
      have q2 : (0 : Int) ≤ ((m + g.length - 1 : Nat) : Int) := by omega
      have q3 : ((m + g.length - 1 : Nat) : Int) < (r.length : Int) := by omega
      have q4 : ¬ p = 0 := by omega
      have q5 : (m : Int) < (q.length : Int) := by omega
      have w1 : wrap64 (r.getD (m + g.length - 1) 0 * iv) = r.getD (m + g.length - 1) 0 * iv := w64 (by omega) (by omega)
      simp only [spec_l01Divide.l0, hm, hw]
      rw [if_pos q1, if_pos q2, if_pos q3, if_neg q4, if_pos q1, if_pos q5, rd_nat, w1, tmod_nn hb.1, Int.toNat_natCast, e]
      rfl
  unfold divL
  by_cases hlt : f.length < g.length
  · rw [if_pos hlt]
    refine ⟨0, fun k _ => ?_⟩
    simp only [spec_l01Divide.f, own_some f (by omega), Option.bind_some]
    rw [if_pos (by omega)]
    rfl
  · rw [if_neg hlt]
    have hiv := inv_bd (p := p) (by omega) (g.getD (g.length - 1) 0)
    obtain ⟨K1, h1⟩ := spec_inverse (x := g.getD (g.length - 1) 0) hp hp2
    obtain ⟨K2, h2⟩ := outer _ hiv (f.length - g.length + 1) (List.replicate (f.length - g.length + 1) 0) f (by omega) (by simp) (by omega) (by simp; omega) (by omega) (InR.zeros (by omega) _) rf
    refine ⟨K1 + K2, fun k hk => ?_⟩
    have e1 := h1 k (by omega)
    have e2 := h2 k (by omega)
    simp only at e1 e2
    have a1 : wrap64 ((f.length : Int) - (g.length : Int)) = ((f.length - g.length + 1 : Nat) : Int) - 1 := by rw [w64 (by omega) (by omega)]; omega
    have a2 : wrap64 (((f.length - g.length + 1 : Nat) : Int) - 1 + 1) = ((f.length - g.length + 1 : Nat) : Int) := by rw [w64 (by omega) (by omega)]; omega
    have a3 : wrap64 ((g.length : Int) - 1) = ((g.length - 1 : Nat) : Int) := by rw [w64 (by omega) (by omega)]; omega
    have q1 : ¬ (f.length : Int) < (g.length : Int) := by omega
    have q2 : (0 : Int) ≤ ((f.length - g.length + 1 : Nat) : Int) := by omega
    have q3 : ((f.length - g.length + 1 : Nat) : Int).toNat ≤ 35184372088832 := by omega
    have q4 : (0 : Int) ≤ ((g.length - 1 : Nat) : Int) := by omega
    have q5 : ((g.length - 1 : Nat) : Int) < (g.length : Int) := by omega
    simp only [spec_l01Divide.f, own_some f (show f.length < 17592186044416 by omega), Option.bind_some, a1, a2, a3]
    rw [if_neg q1, if_pos q2, if_pos q3, if_pos q4, if_pos q5, rd_nat, e1, Option.bind_some, Int.toNat_natCast]
    exact e2

theorem impl_div {p x y : Int} (hp : 2 ≤ p) (hp2 : p ≤ 10007) (hx : 0 ≤ x ∧ x < p) (hy : 0 ≤ y ∧ y < p) : Ev (fun k => impl_field_div.f k p x y) (x * inv p y % p) := by
  obtain ⟨K, h⟩ := impl_inverse (x := y) hp hp2 hy.1 hy.2
  have hiv := inv_bd (p := p) (by omega) y
  have hb := mul_bd2 hp2 hx (y := inv p y) (by omega)
  refine ⟨K, fun k hk => ?_⟩
  have e := h k hk
  simp only at e
  have e' : impl_field_inverse.f k p y = some (inv p y) := e
  simp only [impl_field_div.f, e', Option.bind_some, impl_mul (show 0 < p by omega) (show p ≤ 1000000000 by omega) (show -9223372036854775808 ≤ x * inv p y by omega) (show x * inv p y ≤ 9223372036854775807 by omega)]

theorem impl_divide {p : Int} {f g : List Int} (hp : 2 ≤ p) (hp2 : p ≤ 10007) (hf : f.length ≤ 1000) (hg : g.length ≤ 1000) (h0 : 0 < g.length) (rf : InR p f) (rg : InR p g) :
    Ev (fun k => impl_field_divide.f k p f g) (divL p f g) := by
  have hlast := rg.get (by omega) (g.length - 1)
  obtain ⟨iv, hiv0⟩ : ∃ iv, iv = inv p (g.getD (g.length - 1) 0) := ⟨_, rfl⟩
  have hiv : 0 ≤ iv ∧ iv < p := by rw [hiv0]; exact inv_bd (by omega) _
  have inner : ∀ (a : Nat) (c : Int) (q : List Int) (res : List Int × List Int), a ≤ 1000 → a < q.length → q.getD a 0 = c → 0 ≤ c ∧ c < p → ∀ d j (r : List Int), j + d = g.length → a + g.length ≤ r.length → InR p r →
      Ev (fun k => impl_field_divide.l0 k p g (dv1 p c g a r j d) q ((a : Int) - 1)) res → Ev (fun k => impl_field_divide.l1 k p g r q (a : Int) g (g.length : Int) (j : Int)) res := by
    intro a c q res ha1 haq hqc hc d
    induction d with
    | zero =>
      intro j r h1 h2 h3 ⟨K, h⟩
      refine ⟨K + 1, fun k hk => ?_⟩
      obtain ⟨k, rfl⟩ : ∃ m, k = m + 1 := ⟨k - 1, by omega⟩
      have e := h k (by omega)
      simp only [dv1] at e
      simp only [impl_field_divide.l1]
      rw [if_neg (by omega), wm (by omega), e]
    | succ d ih =>
      intro j r h1 h2 h3 h
      obtain ⟨K, h⟩ := ih (j + 1) (r.set (a + j) ((r.getD (a + j) 0 - c * g.getD j 0) % p)) (by omega) (by simpa using h2) (h3.set _ (emod_bd (by omega))) h
      refine ⟨K + 1, fun k hk => ?_⟩
      obtain ⟨k, rfl⟩ : ∃ m, k = m + 1 := ⟨k - 1, by omega⟩
      have e := h k (by omega)
      simp only at e
      have hb := mul_bd2 hp2 hc (y := g.getD j 0) (by have := rg.get (by omega) j; omega)
      have ha := h3.get (by omega) (a + j)
      subst hqc
      exact (impl_dstep k a j hp hp2 (by omega) (by omega) (by omega) haq hb ⟨ha.1, by omega⟩).trans e
  have outer : ∀ m (q r : List Int), m ≤ 1000 → m ≤ q.length → (m = 0 ∨ m + g.length - 1 ≤ r.length) → q.length ≤ 1001 → r.length ≤ 1001 → InR p q → InR p r →
      Ev (fun k => impl_field_divide.l0 k p g r q ((m : Int) - 1)) ((dvR p iv g m q r).1, trimL (dvR p iv g m q r).2) := by
    intro m
    induction m with
    | zero =>
      intro q r h1 h2 h3 h4 h5 h6 h7
      obtain ⟨K', h'⟩ := impl_trim r (by omega)
      refine ⟨K' + 1, fun k hk => ?_⟩
      obtain ⟨k, rfl⟩ : ∃ m, k = m + 1 := ⟨k - 1, by omega⟩
      have e' := h' k (by omega)
      simp only at e'
      simp only [impl_field_divide.l0]
      rw [if_neg (by omega), e']
      rfl
    | succ m ih =>
      intro q r h1 h2 h3 h4 h5 h6 h7
      have hr := h7.get (by omega) (m + g.length - 1)
      have hcb := emod_bd (x := r.getD (m + g.length - 1) 0 * iv) (p := p) (by omega)
      obtain ⟨K0, hd⟩ := impl_div hp hp2 hr hlast
      obtain ⟨K, h⟩ := inner m _ (q.set m (r.getD (m + g.length - 1) 0 * iv % p)) _ (by omega) (by simp; omega) (by simp only [List.getD_eq_getElem?_getD]; rw [List.getElem?_set_self (by omega)]; rfl) hcb g.length 0 r (by omega) (by omega) h7
        (ih (q.set m (r.getD (m + g.length - 1) 0 * iv % p)) (dv1 p (r.getD (m + g.length - 1) 0 * iv % p) g m r 0 g.length) (by omega) (by simp; omega) (by rw [dv1_len]; omega) (by simpa using h4) (by rw [dv1_len]; exact h5) (h6.set _ hcb) (dv1_inR (by omega) _ g m _ _ _ h7))
      refine ⟨K0 + K + 1, fun k hk => ?_⟩
      obtain ⟨k, rfl⟩ : ∃ m, k = m + 1 := ⟨k - 1, by omega⟩
      have e := h k (by omega)
      have ed := hd k (by omega)
      simp only [Int.natCast_zero] at e
      simp only [← hiv0] at ed
      have hm : ((m + 1 : Nat) : Int) - 1 = (m : Int) := by omega
      have hw : wrap64 (wrap64 ((m : Int) + (g.length : Int)) - 1) = ((m + g.length - 1 : Nat) : Int) := by rw [w64 (x := (m : Int) + (g.length : Int)) (by omega) (by omega), w64 (by omega) (by omega)]; omega
      have a3 : wrap64 ((g.length : Int) - 1) = ((g.length - 1 : Nat) : Int) := by rw [w64 (by omega) (by omega)]; omega
      have q1 : (m : Int) ≥ 0 := by omega
      have q2 : (0 : Int) ≤ ((m + g.length - 1 : Nat) : Int) := by omega
      have q3 : ((m + g.length - 1 : Nat) : Int) < (r.length : Int) := by omega
      have q4 : (0 : Int) ≤ ((g.length - 1 : Nat) : Int) := by omega
      have q6 : ((g.length - 1 : Nat) : Int) < (g.length : Int) := by omega
      have q5 : (m : Int) < (q.length : Int) := by omega
      simp only [impl_field_divide.l0, hm, hw, a3]
      rw [if_pos q1, if_pos q2, if_pos q3, if_pos q4, if_pos q6, rd_nat, rd_nat, ed, Option.bind_some, if_pos q1, if_pos q5, Int.toNat_natCast, e]
      rfl
  have hcl : slices_Clone_int64_int64.f f = some f := by simp [slices_Clone_int64_int64.f, show f.length < 17592186044416 by omega]
  unfold divL
  by_cases hlt : f.length < g.length
  · rw [if_pos hlt]
    refine ⟨0, fun k _ => ?_⟩
    simp only [impl_field_divide.f, hcl, Option.bind_some]
    rw [if_pos (by omega)]
  · rw [if_neg hlt]
    obtain ⟨K2, h2⟩ := outer (f.length - g.length + 1) (List.replicate (f.length - g.length + 1) 0) f (by omega) (by simp) (by omega) (by simp; omega) (by omega) (InR.zeros (by omega) _) rf
    refine ⟨K2, fun k hk => ?_⟩
    have e2 := h2 k (by omega)
    simp only at e2
    have a1 : wrap64 ((f.length : Int) - (g.length : Int)) = ((f.length - g.length + 1 : Nat) : Int) - 1 := by rw [w64 (by omega) (by omega)]; omega
    have a2 : wrap64 (((f.length - g.length + 1 : Nat) : Int) - 1 + 1) = ((f.length - g.length + 1 : Nat) : Int) := by rw [w64 (by omega) (by omega)]; omega
    have q1 : ¬ (f.length : Int) < (g.length : Int) := by omega
    have q2 : (0 : Int) ≤ ((f.length - g.length + 1 : Nat) : Int) := by omega
    have q3 : ((f.length - g.length + 1 : Nat) : Int).toNat ≤ 35184372088832 := by omega
    have a4 : wrap64 (((List.replicate (f.length - g.length + 1) (0 : Int)).length : Int) - 1) = ((f.length - g.length + 1 : Nat) : Int) - 1 := by rw [List.length_replicate, wm (by omega)]
    simp only [impl_field_divide.f, hcl, Option.bind_some, a1, a2]
    rw [if_neg q1, if_pos q2, if_pos q3]
    simp only [Int.toNat_natCast, a4]
    rw [e2, hiv0]

theorem inv_ne0 {p x : Int} (hp : IsP p) (hx : 0 < x ∧ x < p) : 0 < inv p x ∧ inv p x < p := by
  have hb := inv_bd (p := p) (by have := hp.1; omega) x
  refine ⟨?_, hb.2⟩
  rcases Int.lt_or_eq_of_le hb.1 with h | h
  · exact h
  · exfalso
    obtain ⟨a, rfl⟩ : ∃ a : Nat, x = a := ⟨x.toNat, by omega⟩
    obtain ⟨n, hn⟩ : ∃ n : Nat, p = n := ⟨p.toNat, by have := hp.1; omega⟩
    subst hn
    have hpr : Pr n := by simpa using hp.2.2
    have hnd : ¬ n ∣ a := fun h => by have := Nat.le_of_dvd (by omega) h; omega
    apply hpr.pow hnd ((n : Int) - 2).toNat
    apply Nat.dvd_of_mod_eq_zero
    have h' : ((a ^ ((n : Int) - 2).toNat % n : Nat) : Int) = 0 := by
      have := h.symm
      unfold inv at this
      simpa using this
    omega

/-- the quotient has no noughts at its end -/
theorem divL_trim {p : Int} {f g : List Int} (hp : IsP p) (pf : Po p f) (pg : Po p g) (hg : 0 < g.length) : trimL (divL p f g).1 = (divL p f g).1 := by
  unfold divL
  by_cases hlt : f.length < g.length
  · rw [if_pos hlt]; rfl
  · rw [if_neg hlt]
    apply trimL_id
    right
    obtain ⟨m, hm⟩ : ∃ m, f.length - g.length + 1 = m + 1 := ⟨f.length - g.length, rfl⟩
    have hp0 : 0 < p := by have := hp.1; omega
    have hl := (dvR_len p (inv p (g.getD (g.length - 1) 0)) g (m + 1) (List.replicate (m + 1) 0) f).1
    simp only [hm]
    rw [hl, List.length_replicate, Nat.add_sub_cancel, dvR, dvR_top _ _ _ _ _ _ _ (Nat.le_refl m)]
    simp only [List.getD_eq_getElem?_getD]
    rw [List.getElem?_set_self (by simp)]
    simp only [Option.getD_some]
    rw [← List.getD_eq_getElem?_getD, ← List.getD_eq_getElem?_getD, show m + g.length - 1 = f.length - 1 by omega]
    exact mul_ne0 hp (pf.last_bd hp0 (by omega)) (inv_ne0 hp (pg.last_bd hp0 hg))

end Go.Proofs.Ytlcbcbnnphehnaa.H
