/- FnExactReversePolynomial: the program's ReversePolynomial answers as the reference's at all arguments. No condition. -/
import Derived.Test.YtfbehafhiialcaaVFnExactReversePolynomial
import Derived.Test.YtfbehafhiialcaaMc1
import Derived.Test.YtfbehafhiialcaaMc3
import Derived.Test.YtfbehafhiialcaaMabcd2
import Derived.Test.YtfbehafhiialcaaMabcd3
import Derived.Test.YtfbehafhiialcaaMc2
import Derived.Test.YtfbehafhiialcaaRows
import Derived.Test.YtfbehafhiialcaaWSized
set_option linter.unusedVariables false
set_option linter.unusedSimpArgs false
namespace Go.Proofs.Ytfbehafhiialcaa.Pure
open Go.RowKit Go.Proofs.Ytfbehafhiialcaa.H Go.Proofs.YtfbehafhiialcaaW.PrintWords Go.Proofs.YtfbehafhiialcaaW.PrintLast Go.Proofs.YtfbehafhiialcaaW.PrintMore Go.Proofs.Ytfbehafhiialcaa.Num

theorem same (p : Int) (f : List Int) (hf : f.length ≤ 1048576) : ∃ (r : List Int) (e : Int), r.length ≤ 1000 ∧ Ev (fun k => spec_ReversePolynomial.f k p f) (r, e) ∧ Ev (fun k => impl_ReversePolynomial.f k p f) (r, e) := by
  have h1 := spec_code6 p [f] (by simp) (by simp; omega)
  have h2 := impl_fill1 p true f
  by_cases hc : fillL (codeL p true [f]) [f] = 0
  · obtain ⟨hp, _, hq⟩ := fillL_0 hc
    obtain ⟨pf, h0⟩ := hq f (by simp)
    have lf := pf.len
    rw [hc] at h1 h2
    by_cases hz : rd f 0 = 0
    · refine ⟨[], 5, by simp, ?_, ?_⟩
      · simp only [spec_ReversePolynomial.f]
        refine Ev.bind h1 ?_
        simp (disch := omega) only [eq_self, if_true, if_pos, hz, beq_self_eq_true]
        refine Ev.succ ?_
        simp only [spec_ReversePolynomial.j0, if_true]
        exact Ev.now _
      · simp only [impl_ReversePolynomial.f]
        refine Ev.bind h2 ?_
        simp (disch := omega) only [eq_self, if_true, if_pos, hz]
        exact Ev.now _
    · refine ⟨f.reverse, 0, by simp; omega, ?_, ?_⟩
      · simp only [spec_ReversePolynomial.f]
        refine Ev.bind h1 ?_
        simp (disch := omega) only [eq_self, if_true, if_pos, beq_eq_false_iff_ne.mpr hz]
        refine Ev.succ ?_
        simp only [spec_ReversePolynomial.j0, Bool.false_eq_true, if_false, eq_self, if_true]
        exact Ev.bind (spec_back f (by omega)) (Ev.now _)
      · simp only [impl_ReversePolynomial.f]
        refine Ev.bind h2 ?_
        simp (disch := omega) only [eq_self, if_true, if_pos, if_neg hz]
        exact Ev.bind (impl_reversed_ f (by omega)) (Ev.now _)
  · refine ⟨[], fillL (codeL p true [f]) [f], by simp, ?_, ?_⟩
    · simp only [spec_ReversePolynomial.f]
      refine Ev.bind h1 ?_
      simp only [if_neg hc]
      refine Ev.succ ?_
      simp only [spec_ReversePolynomial.j0, Bool.false_eq_true, if_false, if_neg hc]
      exact Ev.now _
    · simp only [impl_ReversePolynomial.f]
      refine Ev.bind h2 ?_
      simp only [if_neg hc]
      exact Ev.now _

theorem FnExactReversePolynomial : laws_FnExactReversePolynomial.Pure := by
  intro p f _ _ _ _
  by_cases hl0 : (f.length : Int) > 1048576
  · exact ⟨0, by simp only [laws_FnExactReversePolynomial.f, if_pos hl0]⟩
  obtain ⟨r, e, hr, f1, f2⟩ := same p f (by omega)
  have f3 : Ev (fun k => laws_toInt64S.f k f) f := toI_same f (by omega)
  have f4 : Ev (fun k => laws_eqInt64S.f k f f) true := eqI_same f (by omega)
  have f5 : Ev (fun k => laws_markInt64S.f k f (1)) (1 + f.length, up (1) f.length) := mark_up f (by omega) (1) (by omega) (by omega)
  have n1 : ¬ ((1 + f.length : Int) < 0) := by omega
  have f6 : Ev (fun k => laws_eqInt64S.f k r r) true := eqI_same r (by omega)
  have f7 : Ev (fun k => laws_markInt64S.f k r (1)) (1 + r.length, up (1) r.length) := mark_up r (by omega) (1) (by omega) (by omega)
  have f8 : Ev (fun k => laws_heldInt64S.f k (up (1) r.length) (1)) (1 + r.length) := held_up r.length (by omega) (1) (by omega) (by omega)
  have m0 : ¬ ((1 + r.length : Int) < 0) := by omega
  refine Ev.rounds ?_
  simp only [laws_FnExactReversePolynomial.f, if_neg hl0]
  repeat (first | exact Ev.now _ | (refine Ev.bind (by assumption) ?_; try simp only [Option.bind_some, bne_self_eq_false, Bool.false_eq_true, Bool.not_true, Bool.not_false, Bool.or_false, Bool.or_self, eq_self, if_true, if_false, ite_self, if_neg n1, if_neg m0]) | (refine Ev.succ ?_; simp only [laws_FnExactReversePolynomial.j0, laws_FnExactReversePolynomial.j1, laws_FnExactReversePolynomial.j2]; try simp only [Option.bind_some, bne_self_eq_false, Bool.false_eq_true, Bool.not_true, Bool.not_false, Bool.or_false, Bool.or_self, eq_self, if_true, if_false, ite_self, if_neg n1, if_neg m0]))
end Go.Proofs.Ytfbehafhiialcaa.Pure

