/- FnExactIsPrime: the program's IsPrime and the reference's answer the same at every number. No condition. -/
import Derived.Test.YtglhpekiglfjiaaL01IsPrime
set_option linter.unusedVariables false
set_option linter.unusedSimpArgs false
namespace Go.Proofs.Ytglhpekiglfjiaa.Pure
open Go.RowKit Go.Proofs.Ytglhpekiglfjiaa.PFnExactIsPrime Go.Proofs.YtglhpekiglfjiaaW.PrintWords Go.Proofs.YtglhpekiglfjiaaW.PrintLast Go.Proofs.Ytglhpekiglfjiaa.Num
theorem FnExactIsPrime : laws_FnExactIsPrime.Pure := by
  intro p _
  refine Ev.rounds ?_ (r := true)
  unfold laws_FnExactIsPrime.f
  obtain ⟨K1, h1⟩ := spec_prime p
  obtain ⟨K2, h2⟩ := impl_prime p
  refine ⟨K1 + K2, fun k hk => ?_⟩
  have e1 := h1 k (by omega)
  have e2 := h2 k (by omega)
  simp only at e1 e2
  simp [spec_IsPrime.f, e1, e2]
end Go.Proofs.Ytglhpekiglfjiaa.Pure
