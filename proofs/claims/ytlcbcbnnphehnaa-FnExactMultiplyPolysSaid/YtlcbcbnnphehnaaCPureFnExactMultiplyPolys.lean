/- FnExactMultiplyPolys: the program's MultiplyPolys answers as the reference's at all arguments, with a result of its own memory. No condition. -/
import Derived.Test.YtlcbcbnnphehnaaMef1
import Derived.Test.YtlcbcbnnphehnaaMe3
set_option linter.unusedVariables false
set_option linter.unusedSimpArgs false
namespace Go.Proofs.Ytlcbcbnnphehnaa.Pure
open Go.RowKit Go.Proofs.Ytlcbcbnnphehnaa.H Go.Proofs.YtlcbcbnnphehnaaW.PrintWords Go.Proofs.YtlcbcbnnphehnaaW.PrintLast Go.Proofs.Ytlcbcbnnphehnaa.Num

theorem limited_eq (l : List Int) (hl : l.length ≤ 1000000) : impl_limited.f l = some (if l.length > 25 then ([], 3) else (l, 0)) := by
  have hw : wrap64 ((l.length : Int) - 1) = (l.length : Int) - 1 := w64 (by omega) (by omega)
  simp only [impl_limited.f, impl_degree.f, impl_length_int64.f, Option.bind_some, hw]
  by_cases h : l.length > 25
  · rw [if_pos (by omega), if_pos h]
  · rw [if_neg (by omega), if_neg h]

theorem mult_same (p : Int) (f g : List Int) (hf : f.length ≤ 1048576) (hg : g.length ≤ 1048576) : ∃ (r : List Int) (e : Int), r.length ≤ 1000 ∧ Ev (fun k => spec_MultiplyPolys.f k p f g) (r, e) ∧ Ev (fun k => impl_MultiplyPolys.f k p f g) (r, e) := by
  obtain ⟨K1, h1⟩ := spec_code p [f, g] (by simp) (by simp; omega)
  obtain ⟨K2, h2⟩ := impl_code2 p true f g
  by_cases hc : codeL p true [f, g] = 0
  · obtain ⟨hp, _, hq⟩ := codeL_0 hc
    have hqf := hq f (by simp)
    have hqg := hq g (by simp)
    have lf := hqf.len
    have lg := hqg.len
    obtain ⟨K3, h3⟩ := spec_product hp.1 hp.2.1 (by omega) (by omega) hqf.inR hqg.inR
    obtain ⟨K4, h4⟩ := impl_product hp.1 hp.2.1 (by omega) (by omega) hqf.inR hqg.inR
    have hm := mulL_len p f g
    have hw : wrap64 (wrap64 ((f.length : Int) + (g.length : Int)) - 2) = (f.length : Int) + g.length - 2 := by rw [w64 (x := (f.length : Int) + (g.length : Int)) (by omega) (by omega), w64 (by omega) (by omega)]
    by_cases hbig : f.length > 0 ∧ g.length > 0 ∧ f.length + g.length > 26
    · obtain ⟨g1, g2, g3⟩ := hbig
      refine ⟨[], 3, by simp, ⟨K1 + K3, fun k hk => ?_⟩, ⟨K2 + K4, fun k hk => ?_⟩⟩
      · have e1 := h1 k (by omega)
        simp only at e1
        simp only [spec_MultiplyPolys.f, e1, hc, Option.bind_some, if_true, hw]
        rw [if_pos (by omega), if_pos (by omega), if_pos (by omega)]
      · have e1 := h2 k (by omega)
        have e3 := h4 k (by omega)
        simp only at e1 e3
        have hl : (mulL p f g).length = f.length + g.length - 1 := by rw [mulL_len_eq hp hqf hqg g1 g2, mulW_len]
        simp only [impl_MultiplyPolys.f, e1, hc, Option.bind_some, if_true, e3, limited_eq _ (show (mulL p f g).length ≤ 1000000 by omega)]
        rw [if_pos (by omega)]
    · have hsm : (mulL p f g).length ≤ 25 := by
        rcases Nat.eq_zero_or_pos f.length with h | h
        · simp [mulL, h]
        · rcases Nat.eq_zero_or_pos g.length with h' | h'
          · simp [mulL, h']
          · omega
      refine ⟨mulL p f g, 0, by omega, ⟨K1 + K3, fun k hk => ?_⟩, ⟨K2 + K4, fun k hk => ?_⟩⟩
      · have e1 := h1 k (by omega)
        have e3 := h3 k (by omega)
        simp only at e1 e3
        simp only [spec_MultiplyPolys.f, e1, hc, Option.bind_some, if_true, hw, e3]
        by_cases q1 : (f.length : Int) > 0
        · rw [if_pos q1]
          by_cases q2 : (g.length : Int) > 0
          · rw [if_pos q2, if_neg (by omega)]
          · rw [if_neg q2]
        · rw [if_neg q1]
      · have e1 := h2 k (by omega)
        have e3 := h4 k (by omega)
        simp only at e1 e3
        simp only [impl_MultiplyPolys.f, e1, hc, Option.bind_some, if_true, e3, limited_eq _ (show (mulL p f g).length ≤ 1000000 by omega)]
        rw [if_neg (by omega)]
  · refine ⟨[], codeL p true [f, g], by simp, ⟨K1, fun k hk => ?_⟩, ⟨K2, fun k hk => ?_⟩⟩
    · have e1 := h1 k (by omega)
      simp only at e1
      simp only [spec_MultiplyPolys.f, e1, Option.bind_some, if_neg hc]
    · have e1 := h2 k (by omega)
      simp only at e1
      simp only [impl_MultiplyPolys.f, e1, Option.bind_some, if_neg hc]

theorem FnExactMultiplyPolys : laws_FnExactMultiplyPolys.Pure := by
  intro p f g _ _ _ _ _ _ _
  by_cases hl0 : (f.length : Int) > 1048576
  · exact ⟨0, by simp only [laws_FnExactMultiplyPolys.f]; rw [if_pos hl0]⟩
  by_cases hl1 : (g.length : Int) > 1048576
  · exact ⟨0, by simp only [laws_FnExactMultiplyPolys.f]; rw [if_neg hl0, if_pos hl1]⟩
  obtain ⟨r, e, hr, ⟨K1, h1⟩, ⟨K2, h2⟩⟩ := mult_same p f g (by omega) (by omega)
  obtain ⟨K3, h3⟩ := toI_same f (by omega)
  obtain ⟨K4, h4⟩ := eqI_same f (by omega)
  obtain ⟨K5, h5⟩ := toI_same g (by omega)
  obtain ⟨K6, h6⟩ := eqI_same g (by omega)
  obtain ⟨K7, h7⟩ := mark_up f (by omega) (1) (by omega) (by omega)
  obtain ⟨K8, h8⟩ := mark_up g (by omega) (1 + f.length) (by omega) (by omega)
  have n1 : ¬ ((1 + f.length + g.length : Int) < 0) := by omega
  obtain ⟨K9, h9⟩ := eqI_same r (by omega)
  obtain ⟨K10, h10⟩ := mark_up r (by omega) (1) (by omega) (by omega)
  obtain ⟨K11, h11⟩ := held_up r.length (by omega) (1) (by omega) (by omega)
  have m0 : ¬ ((1 + r.length : Int) < 0) := by omega
  obtain ⟨K, hK⟩ : ∃ K, K = K1 + K2 + K3 + K4 + K5 + K6 + K7 + K8 + K9 + K10 + K11 := ⟨_, rfl⟩
  refine ⟨K + 3, ?_⟩
  have h1A := fun k (hk : K ≤ k) => h1 k (by omega)
  have h2A := fun k (hk : K ≤ k) => h2 k (by omega)
  have h3A := fun k (hk : K ≤ k) => h3 k (by omega)
  have h4A := fun k (hk : K ≤ k) => h4 k (by omega)
  have h5A := fun k (hk : K ≤ k) => h5 k (by omega)
  have h6A := fun k (hk : K ≤ k) => h6 k (by omega)
  have h7A := fun k (hk : K ≤ k) => h7 k (by omega)
  have h8A := fun k (hk : K ≤ k) => h8 k (by omega)
  have h9A := fun k (hk : K ≤ k) => h9 k (by omega)
  have h10A := fun k (hk : K ≤ k) => h10 k (by omega)
  have h11A := fun k (hk : K ≤ k) => h11 k (by omega)
  simp only at h1A h2A
  have h1_0 := h1A K (by omega)
  have h1_1 := h1A (K + 1) (by omega)
  have h1_2 := h1A (K + 2) (by omega)
  have h1_3 := h1A (K + 3) (by omega)
  have h2_0 := h2A K (by omega)
  have h2_1 := h2A (K + 1) (by omega)
  have h2_2 := h2A (K + 2) (by omega)
  have h2_3 := h2A (K + 3) (by omega)
  have h3_0 := h3A K (by omega)
  have h3_1 := h3A (K + 1) (by omega)
  have h3_2 := h3A (K + 2) (by omega)
  have h3_3 := h3A (K + 3) (by omega)
  have h4_0 := h4A K (by omega)
  have h4_1 := h4A (K + 1) (by omega)
  have h4_2 := h4A (K + 2) (by omega)
  have h4_3 := h4A (K + 3) (by omega)
  have h5_0 := h5A K (by omega)
  have h5_1 := h5A (K + 1) (by omega)
  have h5_2 := h5A (K + 2) (by omega)
  have h5_3 := h5A (K + 3) (by omega)
  have h6_0 := h6A K (by omega)
  have h6_1 := h6A (K + 1) (by omega)
  have h6_2 := h6A (K + 2) (by omega)
  have h6_3 := h6A (K + 3) (by omega)
  have h7_0 := h7A K (by omega)
  have h7_1 := h7A (K + 1) (by omega)
  have h7_2 := h7A (K + 2) (by omega)
  have h7_3 := h7A (K + 3) (by omega)
  have h8_0 := h8A K (by omega)
  have h8_1 := h8A (K + 1) (by omega)
  have h8_2 := h8A (K + 2) (by omega)
  have h8_3 := h8A (K + 3) (by omega)
  have h9_0 := h9A K (by omega)
  have h9_1 := h9A (K + 1) (by omega)
  have h9_2 := h9A (K + 2) (by omega)
  have h9_3 := h9A (K + 3) (by omega)
  have h10_0 := h10A K (by omega)
  have h10_1 := h10A (K + 1) (by omega)
  have h10_2 := h10A (K + 2) (by omega)
  have h10_3 := h10A (K + 3) (by omega)
  have h11_0 := h11A K (by omega)
  have h11_1 := h11A (K + 1) (by omega)
  have h11_2 := h11A (K + 2) (by omega)
  have h11_3 := h11A (K + 3) (by omega)
  clear h1A h2A h3A h4A h5A h6A h7A h8A h9A h10A h11A
  simp only [laws_FnExactMultiplyPolys.f]
  rw [if_neg hl0, if_neg hl1]
  simp only [laws_FnExactMultiplyPolys.j0, laws_FnExactMultiplyPolys.j1, laws_FnExactMultiplyPolys.j2, h1_0, h2_0, h3_0, h4_0, h5_0, h6_0, h7_0, h8_0, h9_0, h10_0, h11_0, h1_1, h2_1, h3_1, h4_1, h5_1, h6_1, h7_1, h8_1, h9_1, h10_1, h11_1, h1_2, h2_2, h3_2, h4_2, h5_2, h6_2, h7_2, h8_2, h9_2, h10_2, h11_2, h1_3, h2_3, h3_3, h4_3, h5_3, h6_3, h7_3, h8_3, h9_3, h10_3, h11_3, Option.bind_some, bne_self_eq_false, Bool.false_eq_true, if_true, if_false, if_neg n1, if_neg m0]
end Go.Proofs.Ytlcbcbnnphehnaa.Pure
