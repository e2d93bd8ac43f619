/- FnExactSimplePart: the program's SimplePart answers as the reference's at all arguments. No condition. -/
import Derived.Test.YtnhbpcfcgpcdfaaVFnExactSimplePart
import Derived.Test.YtnhbpcfcgpcdfaaMb1
import Derived.Test.YtnhbpcfcgpcdfaaMb2
import Derived.Test.YtnhbpcfcgpcdfaaMabc4
import Derived.Test.YtnhbpcfcgpcdfaaMbc1
import Derived.Test.YtnhbpcfcgpcdfaaMabc5
import Derived.Test.YtnhbpcfcgpcdfaaRows
import Derived.Test.YtnhbpcfcgpcdfaaWSized
set_option linter.unusedVariables false
set_option linter.unusedSimpArgs false
namespace Go.Proofs.Ytnhbpcfcgpcdfaa.Pure
open Go.RowKit Go.Proofs.Ytnhbpcfcgpcdfaa.H Go.Proofs.YtnhbpcfcgpcdfaaW.PrintWords Go.Proofs.YtnhbpcfcgpcdfaaW.PrintLast Go.Proofs.YtnhbpcfcgpcdfaaW.PrintMore Go.Proofs.Ytnhbpcfcgpcdfaa.Num

theorem same (p : Int) (f : List Int) (hf : f.length ≤ 1048576) : ∃ (r : List Int) (e : Int), r.length ≤ 1000 ∧ Ev (fun k => spec_SimplePart.f k p f) (r, e) ∧ Ev (fun k => impl_SimplePart.f k p f) (r, e) := by
  have h1 := spec_code6 p [f] (by simp) (by simp; omega)
  have h2 := impl_fill1 p true f
  by_cases hc : fillL (codeL p true [f]) [f] = 0
  · obtain ⟨hp, _, hq⟩ := fillL_0 hc
    obtain ⟨pf, h0⟩ := hq f (by simp)
    have lf := pf.len
    have pd := derivL_po hp.p0 pf
    have sd := spec_derive hp.p2 hp.pm (by omega) pf.inR
    have id := impl_derive hp.p2 hp.pm (by omega) pf.inR
    have sg := spec_gcd hp pf pd
    have ig := impl_gcd hp pf pd
    obtain ⟨pg, gg⟩ := gcdL_po hp pf pd
    have hg0 := (gg (.inl h0)).1
    have lg := pg.len
    have sv := spec_divide hp.p2 hp.pm (f := f) (g := gcdL p f (derivL p f)) (by omega) (by omega) hg0 pf.inR pg.inR
    rw [divL_trim hp pf pg hg0] at sv
    have iv := impl_divide hp.p2 hp.pm (f := f) (g := gcdL p f (derivL p f)) (by omega) (by omega) hg0 pf.inR pg.inR
    rw [hc] at h1 h2
    refine ⟨(divL p f (gcdL p f (derivL p f))).1, 0, by have := (divL_facts hp pf.inR pg.inR pg.nz hg0).2.2.2.2.2; omega, ?_, ?_⟩
    · simp only [spec_SimplePart.f]
      refine Ev.bind h1 ?_
      simp only [eq_self, if_true]
      exact Ev.bind sd (Ev.bind sg (Ev.bind sv (Ev.now _)))
    · simp only [impl_SimplePart.f]
      refine Ev.bind h2 ?_
      simp only [eq_self, if_true]
      exact Ev.bind id (Ev.bind ig (Ev.bind iv (Ev.now _)))
  · refine ⟨[], fillL (codeL p true [f]) [f], by simp, ?_, ?_⟩
    · simp only [spec_SimplePart.f]
      refine Ev.bind h1 ?_
      simp only [if_neg hc]
      exact Ev.now _
    · simp only [impl_SimplePart.f]
      refine Ev.bind h2 ?_
      simp only [if_neg hc]
      exact Ev.now _

theorem FnExactSimplePart : laws_FnExactSimplePart.Pure := by
  intro p f _ _ _ _
  by_cases hl0 : (f.length : Int) > 1048576
  · exact ⟨0, by simp only [laws_FnExactSimplePart.f, if_pos hl0]⟩
  obtain ⟨r, e, hr, f1, f2⟩ := same p f (by omega)
  have f3 : Ev (fun k => laws_toInt64S.f k f) f := toI_same f (by omega)
  have f4 : Ev (fun k => laws_eqInt64S.f k f f) true := eqI_same f (by omega)
  have f5 : Ev (fun k => laws_markInt64S.f k f (1)) (1 + f.length, up (1) f.length) := mark_up f (by omega) (1) (by omega) (by omega)
  have n1 : ¬ ((1 + f.length : Int) < 0) := by omega
  have f6 : Ev (fun k => laws_eqInt64S.f k r r) true := eqI_same r (by omega)
  have f7 : Ev (fun k => laws_markInt64S.f k r (1)) (1 + r.length, up (1) r.length) := mark_up r (by omega) (1) (by omega) (by omega)
  have f8 : Ev (fun k => laws_heldInt64S.f k (up (1) r.length) (1)) (1 + r.length) := held_up r.length (by omega) (1) (by omega) (by omega)
  have m0 : ¬ ((1 + r.length : Int) < 0) := by omega
  refine Ev.rounds ?_
  simp only [laws_FnExactSimplePart.f, if_neg hl0]
  repeat (first | exact Ev.now _ | (refine Ev.bind (by assumption) ?_; try simp only [Option.bind_some, bne_self_eq_false, Bool.false_eq_true, Bool.not_true, Bool.not_false, Bool.or_false, Bool.or_self, eq_self, if_true, if_false, ite_self, if_neg n1, if_neg m0]) | (refine Ev.succ ?_; simp only [laws_FnExactSimplePart.j0, laws_FnExactSimplePart.j1, laws_FnExactSimplePart.j2]; try simp only [Option.bind_some, bne_self_eq_false, Bool.false_eq_true, Bool.not_true, Bool.not_false, Bool.or_false, Bool.or_self, eq_self, if_true, if_false, ite_self, if_neg n1, if_neg m0]))
end Go.Proofs.Ytnhbpcfcgpcdfaa.Pure

