/- FnExactPolynomialOfRoots: the program's PolynomialOfRoots answers as the reference's at all arguments. No condition. -/
import Derived.Test.YtfbehafhiialcaaVFnExactPolynomialOfRoots
import Derived.Test.YtfbehafhiialcaaMb1
import Derived.Test.YtfbehafhiialcaaMabcd1
import Derived.Test.YtfbehafhiialcaaMabcd2
import Derived.Test.YtfbehafhiialcaaMb3
import Derived.Test.YtfbehafhiialcaaMabcd3
import Derived.Test.YtfbehafhiialcaaMb2
import Derived.Test.YtfbehafhiialcaaRows
import Derived.Test.YtfbehafhiialcaaWSized
set_option linter.unusedVariables false
set_option linter.unusedSimpArgs false
namespace Go.Proofs.Ytfbehafhiialcaa.Pure
open Go.RowKit Go.Proofs.Ytfbehafhiialcaa.H Go.Proofs.YtfbehafhiialcaaW.PrintWords Go.Proofs.YtfbehafhiialcaaW.PrintLast Go.Proofs.YtfbehafhiialcaaW.PrintMore Go.Proofs.Ytfbehafhiialcaa.Num

theorem same (p : Int) (f : List Int) (hf : f.length ≤ 1048576) : ∃ (r : List Int) (e : Int), r.length ≤ 1000 ∧ Ev (fun k => spec_PolynomialOfRoots.f k p f) (r, e) ∧ Ev (fun k => impl_PolynomialOfRoots.f k p f) (r, e) := by
  have h1 := spec_prime p
  have h2 := impl_numbers p f 0 24
  by_cases hpr : primeB p = true
  · have hp := primeB_iff.1 hpr
    have h3 := spec_numbers hp f (by omega)
    rw [hpr] at h1
    by_cases hl : (f.length : Int) > 24
    · have hw : withinB f.length 0 24 = false := by unfold withinB; rw [decide_eq_false (show ¬ (f.length : Int) ≤ 24 by omega), Bool.and_false]
      refine ⟨[], 2, by simp, ?_, ?_⟩
      · simp only [spec_PolynomialOfRoots.f]
        refine Ev.bind h1 ?_
        simp only [if_true, if_pos hl]
        exact Ev.now _
      · simp only [arNum, hpr, hw, Bool.true_and, Bool.false_and] at h2
        simp only [impl_PolynomialOfRoots.f]
        refine Ev.bind h2 ?_
        simp only [Bool.false_eq_true, if_false]
        exact Ev.now _
    · have hw : withinB f.length 0 24 = true := by unfold withinB; rw [decide_eq_true (show (f.length : Int) ≤ 24 by omega), decide_eq_true (show (0 : Int) ≤ f.length by omega)]; rfl
      simp only [arNum, hpr, hw, Bool.true_and] at h2
      cases ha : f.all (hasB p) with
      | true =>
        have hr : InR p f := fun x hx => hasB_iff.1 (List.all_eq_true.1 ha x hx)
        rw [ha] at h2 h3
        refine ⟨ofL p f f.length, 0, by have := ofL_len p f f.length; omega, ?_, ?_⟩
        · simp only [spec_PolynomialOfRoots.f]
          refine Ev.bind h1 ?_
          simp only [if_true, if_neg hl]
          refine Ev.bind h3 ?_
          simp only [if_true]
          exact Ev.bind (spec_of hp (by omega) hr) (Ev.now _)
        · simp only [impl_PolynomialOfRoots.f]
          refine Ev.bind h2 ?_
          simp only [if_true]
          exact Ev.bind (impl_of hp (by omega) hr) (Ev.now _)
      | false =>
        rw [ha] at h2 h3
        refine ⟨[], 2, by simp, ?_, ?_⟩
        · simp only [spec_PolynomialOfRoots.f]
          refine Ev.bind h1 ?_
          simp only [if_true, if_neg hl]
          refine Ev.bind h3 ?_
          simp only [Bool.false_eq_true, if_false]
          exact Ev.now _
        · simp only [impl_PolynomialOfRoots.f]
          refine Ev.bind h2 ?_
          simp only [Bool.false_eq_true, if_false]
          exact Ev.now _
  · have hpf : primeB p = false := by simpa using hpr
    rw [hpf] at h1
    simp only [arNum, hpf, Bool.false_and] at h2
    refine ⟨[], 2, by simp, ?_, ?_⟩
    · simp only [spec_PolynomialOfRoots.f]
      refine Ev.bind h1 ?_
      simp only [Bool.false_eq_true, if_false]
      exact Ev.now _
    · simp only [impl_PolynomialOfRoots.f]
      refine Ev.bind h2 ?_
      simp only [Bool.false_eq_true, if_false]
      exact Ev.now _

theorem FnExactPolynomialOfRoots : laws_FnExactPolynomialOfRoots.Pure := by
  intro p f _ _ _ _
  by_cases hl0 : (f.length : Int) > 1048576
  · exact ⟨0, by simp only [laws_FnExactPolynomialOfRoots.f, if_pos hl0]⟩
  obtain ⟨r, e, hr, f1, f2⟩ := same p f (by omega)
  have f3 : Ev (fun k => laws_toInt64S.f k f) f := toI_same f (by omega)
  have f4 : Ev (fun k => laws_eqInt64S.f k f f) true := eqI_same f (by omega)
  have f5 : Ev (fun k => laws_markInt64S.f k f (1)) (1 + f.length, up (1) f.length) := mark_up f (by omega) (1) (by omega) (by omega)
  have n1 : ¬ ((1 + f.length : Int) < 0) := by omega
  have f6 : Ev (fun k => laws_eqInt64S.f k r r) true := eqI_same r (by omega)
  have f7 : Ev (fun k => laws_markInt64S.f k r (1)) (1 + r.length, up (1) r.length) := mark_up r (by omega) (1) (by omega) (by omega)
  have f8 : Ev (fun k => laws_heldInt64S.f k (up (1) r.length) (1)) (1 + r.length) := held_up r.length (by omega) (1) (by omega) (by omega)
  have m0 : ¬ ((1 + r.length : Int) < 0) := by omega
  refine Ev.rounds ?_
  simp only [laws_FnExactPolynomialOfRoots.f, if_neg hl0]
  repeat (first | exact Ev.now _ | (refine Ev.bind (by assumption) ?_; try simp only [Option.bind_some, bne_self_eq_false, Bool.false_eq_true, Bool.not_true, Bool.not_false, Bool.or_false, Bool.or_self, eq_self, if_true, if_false, ite_self, if_neg n1, if_neg m0]) | (refine Ev.succ ?_; simp only [laws_FnExactPolynomialOfRoots.j0, laws_FnExactPolynomialOfRoots.j1, laws_FnExactPolynomialOfRoots.j2]; try simp only [Option.bind_some, bne_self_eq_false, Bool.false_eq_true, Bool.not_true, Bool.not_false, Bool.or_false, Bool.or_self, eq_self, if_true, if_false, ite_self, if_neg n1, if_neg m0]))
end Go.Proofs.Ytfbehafhiialcaa.Pure

