/- FnExactIsSimplePolynomial: the program's IsSimplePolynomial answers as the reference's at all arguments. No condition. -/
import Derived.Test.YtnhbpcfcgpcdfaaVFnExactIsSimplePolynomial
import Derived.Test.YtnhbpcfcgpcdfaaMa1
import Derived.Test.YtnhbpcfcgpcdfaaMabc4
import Derived.Test.YtnhbpcfcgpcdfaaMabc5
import Derived.Test.YtnhbpcfcgpcdfaaRows
import Derived.Test.YtnhbpcfcgpcdfaaWSized
set_option linter.unusedVariables false
set_option linter.unusedSimpArgs false
namespace Go.Proofs.Ytnhbpcfcgpcdfaa.Pure
open Go.RowKit Go.Proofs.Ytnhbpcfcgpcdfaa.H Go.Proofs.YtnhbpcfcgpcdfaaW.PrintWords Go.Proofs.YtnhbpcfcgpcdfaaW.PrintLast Go.Proofs.YtnhbpcfcgpcdfaaW.PrintMore Go.Proofs.Ytnhbpcfcgpcdfaa.Num

theorem same (p : Int) (f : List Int) (hf : f.length ≤ 1048576) : ∃ (r : Bool) (e : Int), Ev (fun k => spec_IsSimplePolynomial.f k p f) (r, e) ∧ Ev (fun k => impl_IsSimplePolynomial.f k p f) (r, e) := by
  have h1 := spec_code6 p [f] (by simp) (by simp; omega)
  have h2 := impl_fill1 p true f
  by_cases hc : fillL (codeL p true [f]) [f] = 0
  · obtain ⟨hp, _, hq⟩ := fillL_0 hc
    obtain ⟨pf, h0⟩ := hq f (by simp)
    have lf := pf.len
    have pd := derivL_po hp.p0 pf
    have sd := spec_derive hp.p2 hp.pm (by omega) pf.inR
    have id := impl_derive hp.p2 hp.pm (by omega) pf.inR
    have sg := spec_gcd hp pf pd
    have ig := impl_gcd hp pf pd
    rw [hc] at h1 h2
    refine ⟨((gcdL p f (derivL p f)).length : Int) == 1, 0, ?_, ?_⟩
    · simp only [spec_IsSimplePolynomial.f]
      refine Ev.bind h1 ?_
      simp only [eq_self, if_true]
      exact Ev.bind sd (Ev.bind sg (Ev.now _))
    · simp only [impl_IsSimplePolynomial.f]
      refine Ev.bind h2 ?_
      simp only [eq_self, if_true]
      have h3 : Ev (fun k => impl_field_isSimple.f k p f) (((gcdL p f (derivL p f)).length : Int) == 1) := by
        simp only [impl_field_isSimple.f]
        exact Ev.bind id (Ev.bind ig (Ev.now _))
      exact Ev.bind h3 (Ev.now _)
  · refine ⟨false, fillL (codeL p true [f]) [f], ?_, ?_⟩
    · simp only [spec_IsSimplePolynomial.f]
      refine Ev.bind h1 ?_
      simp only [if_neg hc]
      exact Ev.now _
    · simp only [impl_IsSimplePolynomial.f]
      refine Ev.bind h2 ?_
      simp only [if_neg hc]
      exact Ev.now _

theorem FnExactIsSimplePolynomial : laws_FnExactIsSimplePolynomial.Pure := by
  intro p f _ _ _ _
  by_cases hl0 : (f.length : Int) > 1048576
  · exact ⟨0, by simp only [laws_FnExactIsSimplePolynomial.f, if_pos hl0]⟩
  obtain ⟨r, e, f1, f2⟩ := same p f (by omega)
  have f3 : Ev (fun k => laws_toInt64S.f k f) f := toI_same f (by omega)
  have f4 : Ev (fun k => laws_eqInt64S.f k f f) true := eqI_same f (by omega)
  refine Ev.rounds ?_
  simp only [laws_FnExactIsSimplePolynomial.f, if_neg hl0]
  repeat (first | exact Ev.now _ | (refine Ev.bind (by assumption) ?_; try simp only [Option.bind_some, bne_self_eq_false, Bool.false_eq_true, Bool.not_true, Bool.not_false, Bool.or_false, Bool.or_self, eq_self, if_true, if_false, ite_self]) | (refine Ev.succ ?_; simp only [laws_FnExactIsSimplePolynomial.j0]; try simp only [Option.bind_some, bne_self_eq_false, Bool.false_eq_true, Bool.not_true, Bool.not_false, Bool.or_false, Bool.or_self, eq_self, if_true, if_false, ite_self]))
end Go.Proofs.Ytnhbpcfcgpcdfaa.Pure

