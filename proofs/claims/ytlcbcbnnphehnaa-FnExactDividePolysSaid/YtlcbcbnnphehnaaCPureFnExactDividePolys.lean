/- FnExactDividePolys: the program's DividePolys answers as the reference's at all arguments, with results of their own memory. No condition. -/
import Derived.Test.YtlcbcbnnphehnaaMf7
import Derived.Test.YtlcbcbnnphehnaaMf6
set_option linter.unusedVariables false
set_option linter.unusedSimpArgs false
namespace Go.Proofs.Ytlcbcbnnphehnaa.Pure
open Go.RowKit Go.Proofs.Ytlcbcbnnphehnaa.H Go.Proofs.YtlcbcbnnphehnaaW.PrintWords Go.Proofs.YtlcbcbnnphehnaaW.PrintLast Go.Proofs.Ytlcbcbnnphehnaa.Num

theorem divL_len (p : Int) (f g : List Int) (h : f.length ≤ 25) : (divL p f g).1.length ≤ 1000 ∧ (divL p f g).2.length ≤ 1000 := by
  unfold divL
  split
  · exact ⟨by simp, by simp only; omega⟩
  · have h1 := dvR_len p (inv p (g.getD (g.length - 1) 0)) g (f.length - g.length + 1) (List.replicate (f.length - g.length + 1) 0) f
    have h2 := trimL_len (dvR p (inv p (g.getD (g.length - 1) 0)) g (f.length - g.length + 1) (List.replicate (f.length - g.length + 1) 0) f).2
    rw [List.length_replicate] at h1
    exact ⟨by simp only; omega, by simp only; omega⟩

theorem div_same (p : Int) (f g : List Int) (hf : f.length ≤ 1048576) (hg : g.length ≤ 1048576) : ∃ (q r : List Int) (e : Int), q.length ≤ 1000 ∧ r.length ≤ 1000 ∧ Ev (fun k => spec_DividePolys.f k p f g) (q, r, e) ∧ Ev (fun k => impl_DividePolys.f k p f g) (q, r, e) := by
  obtain ⟨K1, h1⟩ := spec_code p [f, g] (by simp) (by simp; omega)
  obtain ⟨K2, h2⟩ := impl_code2 p true f g
  by_cases hc : codeL p true [f, g] = 0
  · obtain ⟨hp, _, hq⟩ := codeL_0 hc
    have hqf := hq f (by simp)
    have hqg := hq g (by simp)
    have lf := hqf.len
    have lg := hqg.len
    by_cases h0 : g.length = 0
    · refine ⟨[], [], 5, by simp, by simp, ⟨K1 + 1, fun k hk => ?_⟩, ⟨K2, fun k hk => ?_⟩⟩
      · obtain ⟨k, rfl⟩ : ∃ m, k = m + 1 := ⟨k - 1, by omega⟩
        have e1 := h1 (k + 1) (by omega)
        simp only at e1
        have hz : ((g.length : Int) == 0) = true := by rw [h0]; rfl
        simp only [spec_DividePolys.f, e1, hc, Option.bind_some, if_true, hz, spec_DividePolys.j0]
      · have e1 := h2 k (by omega)
        simp only at e1
        have hz : (g.length : Int) = 0 := by omega
        simp only [impl_DividePolys.f, e1, hc, Option.bind_some, if_true, if_pos hz]
    · obtain ⟨K3, h3⟩ := spec_divide hp.1 hp.2.1 (by omega) (by omega) (by omega) hqf.inR hqg.inR
      obtain ⟨K4, h4⟩ := impl_divide hp.1 hp.2.1 (by omega) (by omega) (by omega) hqf.inR hqg.inR
      have hl := divL_len p f g lf
      refine ⟨(divL p f g).1, (divL p f g).2, 0, hl.1, hl.2, ⟨K1 + K3 + 1, fun k hk => ?_⟩, ⟨K2 + K4, fun k hk => ?_⟩⟩
      · obtain ⟨k, rfl⟩ : ∃ m, k = m + 1 := ⟨k - 1, by omega⟩
        have e1 := h1 (k + 1) (by omega)
        have e3 := h3 k (by omega)
        simp only [divL_trim hp hqf hqg (show 0 < g.length by omega)] at e1 e3
        have hz : ((g.length : Int) == 0) = false := beq_eq_false_iff_ne.mpr (by omega)
        simp only [spec_DividePolys.f, e1, hc, Option.bind_some, if_true, hz, spec_DividePolys.j0, Bool.false_eq_true, if_false, e3]
      · have e1 := h2 k (by omega)
        have e3 := h4 k (by omega)
        simp only at e1 e3
        have hz : ¬ (g.length : Int) = 0 := by omega
        simp only [impl_DividePolys.f, e1, hc, Option.bind_some, if_true, if_neg hz, e3]
  · refine ⟨[], [], codeL p true [f, g], by simp, by simp, ⟨K1 + 1, fun k hk => ?_⟩, ⟨K2, fun k hk => ?_⟩⟩
    · obtain ⟨k, rfl⟩ : ∃ m, k = m + 1 := ⟨k - 1, by omega⟩
      have e1 := h1 (k + 1) (by omega)
      simp only at e1
      simp only [spec_DividePolys.f, e1, Option.bind_some, if_neg hc, spec_DividePolys.j0, Bool.false_eq_true, if_false]
    · have e1 := h2 k (by omega)
      simp only at e1
      simp only [impl_DividePolys.f, e1, Option.bind_some, if_neg hc]

theorem FnExactDividePolys : laws_FnExactDividePolys.Pure := by
  intro p f g _ _ _ _ _ _ _
  by_cases hl0 : (f.length : Int) > 1048576
  · exact ⟨0, by simp only [laws_FnExactDividePolys.f]; rw [if_pos hl0]⟩
  by_cases hl1 : (g.length : Int) > 1048576
  · exact ⟨0, by simp only [laws_FnExactDividePolys.f]; rw [if_neg hl0, if_pos hl1]⟩
  obtain ⟨q, r, e, hq, hr, ⟨K1, h1⟩, ⟨K2, h2⟩⟩ := div_same p f g (by omega) (by omega)
  obtain ⟨K3, h3⟩ := toI_same f (by omega)
  obtain ⟨K4, h4⟩ := eqI_same f (by omega)
  obtain ⟨K5, h5⟩ := toI_same g (by omega)
  obtain ⟨K6, h6⟩ := eqI_same g (by omega)
  obtain ⟨K7, h7⟩ := mark_up f (by omega) (1) (by omega) (by omega)
  obtain ⟨K8, h8⟩ := mark_up g (by omega) (1 + f.length) (by omega) (by omega)
  have n1 : ¬ ((1 + f.length + g.length : Int) < 0) := by omega
  obtain ⟨K9, h9⟩ := eqI_same q (by omega)
  obtain ⟨K10, h10⟩ := eqI_same r (by omega)
  obtain ⟨K11, h11⟩ := mark_up q (by omega) (1) (by omega) (by omega)
  obtain ⟨K12, h12⟩ := held_up q.length (by omega) (1) (by omega) (by omega)
  have m0 : ¬ ((1 + q.length : Int) < 0) := by omega
  obtain ⟨K13, h13⟩ := mark_up r (by omega) (1 + q.length) (by omega) (by omega)
  obtain ⟨K14, h14⟩ := held_up r.length (by omega) (1 + q.length) (by omega) (by omega)
  have m1 : ¬ ((1 + q.length + r.length : Int) < 0) := by omega
  obtain ⟨K, hK⟩ : ∃ K, K = K1 + K2 + K3 + K4 + K5 + K6 + K7 + K8 + K9 + K10 + K11 + K12 + K13 + K14 := ⟨_, rfl⟩
  refine ⟨K + 3, ?_⟩
  have h1A := fun k (hk : K ≤ k) => h1 k (by omega)
  have h2A := fun k (hk : K ≤ k) => h2 k (by omega)
  have h3A := fun k (hk : K ≤ k) => h3 k (by omega)
  have h4A := fun k (hk : K ≤ k) => h4 k (by omega)
  have h5A := fun k (hk : K ≤ k) => h5 k (by omega)
  have h6A := fun k (hk : K ≤ k) => h6 k (by omega)
  have h7A := fun k (hk : K ≤ k) => h7 k (by omega)
  have h8A := fun k (hk : K ≤ k) => h8 k (by omega)
  have h9A := fun k (hk : K ≤ k) => h9 k (by omega)
  have h10A := fun k (hk : K ≤ k) => h10 k (by omega)
  have h11A := fun k (hk : K ≤ k) => h11 k (by omega)
  have h12A := fun k (hk : K ≤ k) => h12 k (by omega)
  have h13A := fun k (hk : K ≤ k) => h13 k (by omega)
  have h14A := fun k (hk : K ≤ k) => h14 k (by omega)
  simp only at h1A h2A
  have h1_0 := h1A K (by omega)
  have h1_1 := h1A (K + 1) (by omega)
  have h1_2 := h1A (K + 2) (by omega)
  have h1_3 := h1A (K + 3) (by omega)
  have h2_0 := h2A K (by omega)
  have h2_1 := h2A (K + 1) (by omega)
  have h2_2 := h2A (K + 2) (by omega)
  have h2_3 := h2A (K + 3) (by omega)
  have h3_0 := h3A K (by omega)
  have h3_1 := h3A (K + 1) (by omega)
  have h3_2 := h3A (K + 2) (by omega)
  have h3_3 := h3A (K + 3) (by omega)
  have h4_0 := h4A K (by omega)
  have h4_1 := h4A (K + 1) (by omega)
  have h4_2 := h4A (K + 2) (by omega)
  have h4_3 := h4A (K + 3) (by omega)
  have h5_0 := h5A K (by omega)
  have h5_1 := h5A (K + 1) (by omega)
  have h5_2 := h5A (K + 2) (by omega)
  have h5_3 := h5A (K + 3) (by omega)
  have h6_0 := h6A K (by omega)
  have h6_1 := h6A (K + 1) (by omega)
  have h6_2 := h6A (K + 2) (by omega)
  have h6_3 := h6A (K + 3) (by omega)
  have h7_0 := h7A K (by omega)
  have h7_1 := h7A (K + 1) (by omega)
  have h7_2 := h7A (K + 2) (by omega)
  have h7_3 := h7A (K + 3) (by omega)
  have h8_0 := h8A K (by omega)
  have h8_1 := h8A (K + 1) (by omega)
  have h8_2 := h8A (K + 2) (by omega)
  have h8_3 := h8A (K + 3) (by omega)
  have h9_0 := h9A K (by omega)
  have h9_1 := h9A (K + 1) (by omega)
  have h9_2 := h9A (K + 2) (by omega)
  have h9_3 := h9A (K + 3) (by omega)
  have h10_0 := h10A K (by omega)
  have h10_1 := h10A (K + 1) (by omega)
  have h10_2 := h10A (K + 2) (by omega)
  have h10_3 := h10A (K + 3) (by omega)
  have h11_0 := h11A K (by omega)
  have h11_1 := h11A (K + 1) (by omega)
  have h11_2 := h11A (K + 2) (by omega)
  have h11_3 := h11A (K + 3) (by omega)
  have h12_0 := h12A K (by omega)
  have h12_1 := h12A (K + 1) (by omega)
  have h12_2 := h12A (K + 2) (by omega)
  have h12_3 := h12A (K + 3) (by omega)
  have h13_0 := h13A K (by omega)
  have h13_1 := h13A (K + 1) (by omega)
  have h13_2 := h13A (K + 2) (by omega)
  have h13_3 := h13A (K + 3) (by omega)
  have h14_0 := h14A K (by omega)
  have h14_1 := h14A (K + 1) (by omega)
  have h14_2 := h14A (K + 2) (by omega)
  have h14_3 := h14A (K + 3) (by omega)
  clear h1A h2A h3A h4A h5A h6A h7A h8A h9A h10A h11A h12A h13A h14A
  simp only [laws_FnExactDividePolys.f]
  rw [if_neg hl0, if_neg hl1]
  simp only [laws_FnExactDividePolys.j0, laws_FnExactDividePolys.j1, laws_FnExactDividePolys.j2, h1_0, h2_0, h3_0, h4_0, h5_0, h6_0, h7_0, h8_0, h9_0, h10_0, h11_0, h12_0, h13_0, h14_0, h1_1, h2_1, h3_1, h4_1, h5_1, h6_1, h7_1, h8_1, h9_1, h10_1, h11_1, h12_1, h13_1, h14_1, h1_2, h2_2, h3_2, h4_2, h5_2, h6_2, h7_2, h8_2, h9_2, h10_2, h11_2, h12_2, h13_2, h14_2, h1_3, h2_3, h3_3, h4_3, h5_3, h6_3, h7_3, h8_3, h9_3, h10_3, h11_3, h12_3, h13_3, h14_3, Option.bind_some, bne_self_eq_false, Bool.false_eq_true, if_true, if_false, if_neg n1, if_neg m0, if_neg m1]
end Go.Proofs.Ytlcbcbnnphehnaa.Pure
