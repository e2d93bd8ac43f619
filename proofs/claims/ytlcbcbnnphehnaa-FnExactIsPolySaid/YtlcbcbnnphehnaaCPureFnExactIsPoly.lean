/- FnExactIsPoly: the program's IsPoly answers as the reference's at every number and every list (of at most 2^20 numbers: beyond that the law itself answers true). No condition. -/
import Derived.Test.YtlcbcbnnphehnaaMabcdef6
import Derived.Test.YtlcbcbnnphehnaaMa1
set_option linter.unusedVariables false
set_option linter.unusedSimpArgs false
namespace Go.Proofs.Ytlcbcbnnphehnaa.Pure
open Go.RowKit Go.Proofs.Ytlcbcbnnphehnaa.H Go.Proofs.YtlcbcbnnphehnaaW.PrintWords Go.Proofs.YtlcbcbnnphehnaaW.PrintLast Go.Proofs.Ytlcbcbnnphehnaa.Num
theorem FnExactIsPoly : laws_FnExactIsPoly.Pure := by
  intro p l _ _ _ _
  by_cases hl : (l.length : Int) > 1048576
  · exact ⟨0, by simp only [laws_FnExactIsPoly.f]; rw [if_pos hl]⟩
  · obtain ⟨K1, h1⟩ := toI_same l (by omega)
    obtain ⟨K2, h2⟩ := eqI_same l (by omega)
    obtain ⟨K3, h3⟩ := spec_poly p l (by omega)
    have e1 := h1 (K1 + K2 + K3) (by omega)
    have e2 := h2 (K1 + K2 + K3) (by omega)
    have e3 := h3 (K1 + K2 + K3) (by omega)
    simp only at e3
    refine ⟨K1 + K2 + K3, ?_⟩
    have hp : impl_IsPoly.f p l = some (polyB p l) := rfl
    simp only [laws_FnExactIsPoly.f]
    rw [if_neg hl]
    simp only [e1, e2, e3, spec_IsPoly.f, hp, Option.bind_some, bne_self_eq_false, Bool.false_eq_true, if_true, if_false]
end Go.Proofs.Ytlcbcbnnphehnaa.Pure
