/- FnExactPowerOf: the program's PowerOf and the reference's answer the same at all arguments. No condition. -/
import Derived.Test.YtglhpekiglfjiaaL01PowerOf
set_option linter.unusedVariables false
set_option linter.unusedSimpArgs false
namespace Go.Proofs.Ytglhpekiglfjiaa.Pure
open Go.RowKit Go.Proofs.Ytglhpekiglfjiaa.PFnExactPowerOf Go.Proofs.YtglhpekiglfjiaaW.PrintWords Go.Proofs.YtglhpekiglfjiaaW.PrintLast Go.Proofs.Ytglhpekiglfjiaa.Num
theorem FnExactPowerOf : laws_FnExactPowerOf.Pure := by
  intro p x e w0 _ _
  refine Ev.rounds ?_ (r := true)
  unfold laws_FnExactPowerOf.f
  obtain ⟨K1, h1⟩ := spec_prime p
  obtain ⟨K2, h2⟩ := impl_prime p
  by_cases hp : IsP p
  · have hb : primeB p = true := primeB_iff.2 hp
    have hp0 := hp.1
    have hp1 := hp.2.1
    by_cases hx : 0 ≤ x ∧ x < p ∧ 0 ≤ e ∧ e ≤ 1000000000
    · obtain ⟨hx0, hx1, he0, he1⟩ := hx
      obtain ⟨K3, h3⟩ := spec_power (x := x) hp0 hp1 he0 he1
      obtain ⟨K4, h4⟩ := impl_power (x := x) hp0 hp1 hx0 hx1 he0 he1
      refine ⟨K1 + K2 + K3 + K4, fun k hk => ?_⟩
      have e1 := h1 k (by omega)
      have e2 := h2 k (by omega)
      have e3 := h3 k (by omega)
      have e4 := h4 k (by omega)
      simp only at e1 e2 e3 e4
      have hw : wrap64 (p - 1) = p - 1 := w64 (by omega) (by omega)
      have hx2 : x ≤ p - 1 := by omega
      simp [spec_PowerOf.f, impl_PowerOf.f, spec_l01In.f, impl_within.f, impl_field_has.f, e1, e2, e3, e4, hb, hw, hx0, hx1, hx2, he0, he1]
    · refine ⟨K1 + K2, fun k hk => ?_⟩
      have e1 := h1 k (by omega)
      have e2 := h2 k (by omega)
      simp only at e1 e2
      have hw : wrap64 (p - 1) = p - 1 := w64 (by omega) (by omega)
      have hx2 : x ≤ p - 1 ↔ x < p := by omega
      by_cases hx0 : 0 ≤ x
      · by_cases hx1 : x < p
        · by_cases he0 : 0 ≤ e
          · have he1 : ¬ e ≤ 1000000000 := fun h => hx ⟨hx0, hx1, he0, h⟩
            simp [spec_PowerOf.f, impl_PowerOf.f, spec_l01In.f, impl_within.f, impl_field_has.f, e1, e2, hb, hw, hx0, hx1, hx2, he0, he1]
          · simp [spec_PowerOf.f, impl_PowerOf.f, spec_l01In.f, impl_within.f, impl_field_has.f, e1, e2, hb, hw, hx0, hx1, hx2, he0]
        · simp [spec_PowerOf.f, impl_PowerOf.f, spec_l01In.f, impl_within.f, impl_field_has.f, e1, e2, hb, hw, hx0, hx1, hx2]
      · simp [spec_PowerOf.f, impl_PowerOf.f, spec_l01In.f, impl_within.f, impl_field_has.f, e1, e2, hb, hw, hx0]
  · have hb : primeB p = false := by rw [Bool.eq_false_iff]; exact fun h => hp (primeB_iff.1 h)
    refine ⟨K1 + K2, fun k hk => ?_⟩
    have e1 := h1 k (by omega)
    have e2 := h2 k (by omega)
    simp only at e1 e2
    simp [spec_PowerOf.f, impl_PowerOf.f, e1, e2, hb]
end Go.Proofs.Ytglhpekiglfjiaa.Pure
