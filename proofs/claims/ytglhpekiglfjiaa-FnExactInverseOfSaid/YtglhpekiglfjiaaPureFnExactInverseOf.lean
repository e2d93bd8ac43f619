/- FnExactInverseOf: the program's InverseOf and the reference's answer the same at all arguments. No condition. -/
import Derived.Test.YtglhpekiglfjiaaL01InverseOf
set_option linter.unusedVariables false
set_option linter.unusedSimpArgs false
namespace Go.Proofs.Ytglhpekiglfjiaa.Pure
open Go.RowKit Go.Proofs.Ytglhpekiglfjiaa.PFnExactInverseOf Go.Proofs.YtglhpekiglfjiaaW.PrintWords Go.Proofs.YtglhpekiglfjiaaW.PrintLast Go.Proofs.Ytglhpekiglfjiaa.Num
theorem FnExactInverseOf : laws_FnExactInverseOf.Pure := by
  intro p x w0 _
  refine Ev.rounds ?_ (r := true)
  unfold laws_FnExactInverseOf.f
  obtain ⟨K1, h1⟩ := spec_prime p
  obtain ⟨K2, h2⟩ := impl_prime p
  by_cases hp : IsP p
  · have hb : primeB p = true := primeB_iff.2 hp
    have hp0 := hp.1
    have hp1 := hp.2.1
    have hw : wrap64 (p - 1) = p - 1 := w64 (by omega) (by omega)
    have hw2 : wrap64 (p - 2) = p - 2 := w64 (by omega) (by omega)
    by_cases hx0 : 1 ≤ x
    · by_cases hx1 : x ≤ p - 1
      · obtain ⟨K3, h3⟩ := spec_power (x := x) (e := p - 2) hp0 hp1 (by omega) (by omega)
        obtain ⟨K4, h4⟩ := impl_power (x := x) (e := p - 2) hp0 hp1 (by omega) (by omega) (by omega) (by omega)
        refine ⟨K1 + K2 + K3 + K4, fun k hk => ?_⟩
        have e1 := h1 k (by omega)
        have e2 := h2 k (by omega)
        have e3 := h3 k (by omega)
        have e4 := h4 k (by omega)
        simp only at e1 e2 e3 e4
        simp [spec_InverseOf.f, impl_InverseOf.f, spec_l01In.f, impl_within.f, spec_l01Inverse.f, impl_field_inverse.f, e1, e2, e3, e4, hb, hw, hw2, hx0, hx1]
      · refine ⟨K1 + K2, fun k hk => ?_⟩
        have e1 := h1 k (by omega)
        have e2 := h2 k (by omega)
        simp only at e1 e2
        simp [spec_InverseOf.f, impl_InverseOf.f, spec_l01In.f, impl_within.f, e1, e2, hb, hw, hx0, hx1]
    · refine ⟨K1 + K2, fun k hk => ?_⟩
      have e1 := h1 k (by omega)
      have e2 := h2 k (by omega)
      simp only at e1 e2
      simp [spec_InverseOf.f, impl_InverseOf.f, spec_l01In.f, impl_within.f, e1, e2, hb, hw, hx0]
  · have hb : primeB p = false := by rw [Bool.eq_false_iff]; exact fun h => hp (primeB_iff.1 h)
    refine ⟨K1 + K2, fun k hk => ?_⟩
    have e1 := h1 k (by omega)
    have e2 := h2 k (by omega)
    simp only at e1 e2
    simp [spec_InverseOf.f, impl_InverseOf.f, e1, e2, hb]
end Go.Proofs.Ytglhpekiglfjiaa.Pure
