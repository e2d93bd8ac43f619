/- FnExactDerivativeOf: the program's DerivativeOf answers as the reference's at all arguments, with a result of its own memory. No condition. -/
import Derived.Test.YtlcbcbnnphehnaaMbcdef6
import Derived.Test.YtlcbcbnnphehnaaMb2
set_option linter.unusedVariables false
set_option linter.unusedSimpArgs false
namespace Go.Proofs.Ytlcbcbnnphehnaa.Pure
open Go.RowKit Go.Proofs.Ytlcbcbnnphehnaa.H Go.Proofs.YtlcbcbnnphehnaaW.PrintWords Go.Proofs.YtlcbcbnnphehnaaW.PrintLast Go.Proofs.Ytlcbcbnnphehnaa.Num

theorem deriv_same (p : Int) (l : List Int) (hl : l.length ≤ 1048576) : ∃ (r : List Int) (c : Int), r.length ≤ 1000 ∧ Ev (fun k => spec_DerivativeOf.f k p l) (r, c) ∧ Ev (fun k => impl_DerivativeOf.f k p l) (r, c) := by
  obtain ⟨K1, h1⟩ := spec_code p [l] (by simp) (by simp; omega)
  obtain ⟨K2, h2⟩ := impl_code1 p true l
  by_cases hc : codeL p true [l] = 0
  · obtain ⟨hp, _, hq⟩ := codeL_0 hc
    have hq' := hq l (by simp)
    obtain ⟨K3, h3⟩ := spec_derive hp.1 hp.2.1 (by have := hq'.len; omega) hq'.inR
    obtain ⟨K4, h4⟩ := impl_derive hp.1 hp.2.1 (by have := hq'.len; omega) hq'.inR
    refine ⟨derivL p l, 0, by have := derivL_len p l; have := hq'.len; omega, ⟨K1 + K3, fun k hk => ?_⟩, ⟨K2 + K4, fun k hk => ?_⟩⟩
    · have e1 := h1 k (by omega)
      have e3 := h3 k (by omega)
      simp only at e1 e3
      simp only [spec_DerivativeOf.f, e1, hc, Option.bind_some, if_true, e3]
    · have e1 := h2 k (by omega)
      have e3 := h4 k (by omega)
      simp only at e1 e3
      simp only [impl_DerivativeOf.f, e1, hc, Option.bind_some, if_true, e3]
  · refine ⟨[], codeL p true [l], by simp, ⟨K1, fun k hk => ?_⟩, ⟨K2, fun k hk => ?_⟩⟩
    · have e1 := h1 k (by omega)
      simp only at e1
      simp only [spec_DerivativeOf.f, e1, Option.bind_some, if_neg hc]
    · have e1 := h2 k (by omega)
      simp only at e1
      simp only [impl_DerivativeOf.f, e1, Option.bind_some, if_neg hc]

theorem FnExactDerivativeOf : laws_FnExactDerivativeOf.Pure := by
  intro p l _ _ _ _
  by_cases hl0 : (l.length : Int) > 1048576
  · exact ⟨0, by simp only [laws_FnExactDerivativeOf.f]; rw [if_pos hl0]⟩
  obtain ⟨r, c, hr, ⟨K1, h1⟩, ⟨K2, h2⟩⟩ := deriv_same p l (by omega)
  obtain ⟨K3, h3⟩ := toI_same l (by omega)
  obtain ⟨K4, h4⟩ := eqI_same l (by omega)
  obtain ⟨K5, h5⟩ := mark_up l (by omega) (1) (by omega) (by omega)
  have n1 : ¬ ((1 + l.length : Int) < 0) := by omega
  obtain ⟨K6, h6⟩ := eqI_same r (by omega)
  obtain ⟨K7, h7⟩ := mark_up r (by omega) (1) (by omega) (by omega)
  obtain ⟨K8, h8⟩ := held_up r.length (by omega) (1) (by omega) (by omega)
  have m0 : ¬ ((1 + r.length : Int) < 0) := by omega
  obtain ⟨K, hK⟩ : ∃ K, K = K1 + K2 + K3 + K4 + K5 + K6 + K7 + K8 := ⟨_, rfl⟩
  refine ⟨K + 3, ?_⟩
  have h1A := fun k (hk : K ≤ k) => h1 k (by omega)
  have h2A := fun k (hk : K ≤ k) => h2 k (by omega)
  have h3A := fun k (hk : K ≤ k) => h3 k (by omega)
  have h4A := fun k (hk : K ≤ k) => h4 k (by omega)
  have h5A := fun k (hk : K ≤ k) => h5 k (by omega)
  have h6A := fun k (hk : K ≤ k) => h6 k (by omega)
  have h7A := fun k (hk : K ≤ k) => h7 k (by omega)
  have h8A := fun k (hk : K ≤ k) => h8 k (by omega)
  simp only at h1A h2A
  have h1_0 := h1A K (by omega)
  have h1_1 := h1A (K + 1) (by omega)
  have h1_2 := h1A (K + 2) (by omega)
  have h1_3 := h1A (K + 3) (by omega)
  have h2_0 := h2A K (by omega)
  have h2_1 := h2A (K + 1) (by omega)
  have h2_2 := h2A (K + 2) (by omega)
  have h2_3 := h2A (K + 3) (by omega)
  have h3_0 := h3A K (by omega)
  have h3_1 := h3A (K + 1) (by omega)
  have h3_2 := h3A (K + 2) (by omega)
  have h3_3 := h3A (K + 3) (by omega)
  have h4_0 := h4A K (by omega)
  have h4_1 := h4A (K + 1) (by omega)
  have h4_2 := h4A (K + 2) (by omega)
  have h4_3 := h4A (K + 3) (by omega)
  have h5_0 := h5A K (by omega)
  have h5_1 := h5A (K + 1) (by omega)
  have h5_2 := h5A (K + 2) (by omega)
  have h5_3 := h5A (K + 3) (by omega)
  have h6_0 := h6A K (by omega)
  have h6_1 := h6A (K + 1) (by omega)
  have h6_2 := h6A (K + 2) (by omega)
  have h6_3 := h6A (K + 3) (by omega)
  have h7_0 := h7A K (by omega)
  have h7_1 := h7A (K + 1) (by omega)
  have h7_2 := h7A (K + 2) (by omega)
  have h7_3 := h7A (K + 3) (by omega)
  have h8_0 := h8A K (by omega)
  have h8_1 := h8A (K + 1) (by omega)
  have h8_2 := h8A (K + 2) (by omega)
  have h8_3 := h8A (K + 3) (by omega)
  clear h1A h2A h3A h4A h5A h6A h7A h8A
  simp only [laws_FnExactDerivativeOf.f]
  rw [if_neg hl0]
  simp only [laws_FnExactDerivativeOf.j0, laws_FnExactDerivativeOf.j1, laws_FnExactDerivativeOf.j2, h1_0, h2_0, h3_0, h4_0, h5_0, h6_0, h7_0, h8_0, h1_1, h2_1, h3_1, h4_1, h5_1, h6_1, h7_1, h8_1, h1_2, h2_2, h3_2, h4_2, h5_2, h6_2, h7_2, h8_2, h1_3, h2_3, h3_3, h4_3, h5_3, h6_3, h7_3, h8_3, Option.bind_some, bne_self_eq_false, Bool.false_eq_true, if_true, if_false, if_neg n1, if_neg m0]
end Go.Proofs.Ytlcbcbnnphehnaa.Pure
