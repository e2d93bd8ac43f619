/- FnExactCommonRoots: the program's CommonRoots answers as the reference's at all arguments. No condition. -/
import Derived.Test.YtnhbpcfcgpcdfaaVFnExactCommonRoots
import Derived.Test.YtnhbpcfcgpcdfaaMc1
import Derived.Test.YtnhbpcfcgpcdfaaMc3
import Derived.Test.YtnhbpcfcgpcdfaaMabc4
import Derived.Test.YtnhbpcfcgpcdfaaMbc1
import Derived.Test.YtnhbpcfcgpcdfaaMabc5
import Derived.Test.YtnhbpcfcgpcdfaaMc2
import Derived.Test.YtnhbpcfcgpcdfaaRows
import Derived.Test.YtnhbpcfcgpcdfaaWSized
set_option linter.unusedVariables false
set_option linter.unusedSimpArgs false
namespace Go.Proofs.Ytnhbpcfcgpcdfaa.Pure
open Go.RowKit Go.Proofs.Ytnhbpcfcgpcdfaa.H Go.Proofs.YtnhbpcfcgpcdfaaW.PrintWords Go.Proofs.YtnhbpcfcgpcdfaaW.PrintLast Go.Proofs.YtnhbpcfcgpcdfaaW.PrintMore Go.Proofs.Ytnhbpcfcgpcdfaa.Num

theorem same (p : Int) (f : List Int) (g : List Int) (hf : f.length ≤ 1048576) (hg : g.length ≤ 1048576) : ∃ (r : List Int) (e : Int), r.length ≤ 20000 ∧ Ev (fun k => spec_CommonRoots.f k p f g) (r, e) ∧ Ev (fun k => impl_CommonRoots.f k p f g) (r, e) := by
  have h1 := spec_code6 p [f, g] (by simp) (by simp; omega)
  have h2 := impl_fill2 p true f g
  by_cases hc : fillL (codeL p true [f, g]) [f, g] = 0
  · obtain ⟨hp, _, hq⟩ := fillL_0 hc
    obtain ⟨pf, h0⟩ := hq f (by simp)
    obtain ⟨pg, h0'⟩ := hq g (by simp)
    have sg := spec_gcd hp pf pg
    have ig := impl_gcd hp pf pg
    obtain ⟨pc, _⟩ := gcdL_po hp pf pg
    have lc := pc.len
    rw [hc] at h1 h2
    refine ⟨rootsL p (gcdL p f g), 0, by have := rootsL_len hp.p0 hp.pm (gcdL p f g); omega, ?_, ?_⟩
    · simp only [spec_CommonRoots.f]
      refine Ev.bind h1 ?_
      simp only [eq_self, if_true]
      exact Ev.bind sg (Ev.bind (spec_roots hp.p2 hp.pm (by omega) pc.inR) (Ev.now _))
    · simp only [impl_CommonRoots.f]
      refine Ev.bind h2 ?_
      simp only [eq_self, if_true]
      exact Ev.bind ig (Ev.bind (impl_roots hp.p2 hp.pm (by omega) pc.inR) (Ev.now _))
  · refine ⟨[], fillL (codeL p true [f, g]) [f, g], by simp, ?_, ?_⟩
    · simp only [spec_CommonRoots.f]
      refine Ev.bind h1 ?_
      simp only [if_neg hc]
      exact Ev.now _
    · simp only [impl_CommonRoots.f]
      refine Ev.bind h2 ?_
      simp only [if_neg hc]
      exact Ev.now _

theorem FnExactCommonRoots : laws_FnExactCommonRoots.Pure := by
  intro p f g _ _ _ _ _ _ _
  by_cases hl0 : (f.length : Int) > 1048576
  · exact ⟨0, by simp only [laws_FnExactCommonRoots.f, if_pos hl0]⟩
  by_cases hl1 : (g.length : Int) > 1048576
  · exact ⟨0, by simp only [laws_FnExactCommonRoots.f, if_neg hl0, if_pos hl1]⟩
  obtain ⟨r, e, hr, f1, f2⟩ := same p f g (by omega) (by omega)
  have f3 : Ev (fun k => laws_toInt64S.f k f) f := toI_same f (by omega)
  have f4 : Ev (fun k => laws_eqInt64S.f k f f) true := eqI_same f (by omega)
  have f5 : Ev (fun k => laws_toInt64S.f k g) g := toI_same g (by omega)
  have f6 : Ev (fun k => laws_eqInt64S.f k g g) true := eqI_same g (by omega)
  have f7 : Ev (fun k => laws_markInt64S.f k f (1)) (1 + f.length, up (1) f.length) := mark_up f (by omega) (1) (by omega) (by omega)
  have f8 : Ev (fun k => laws_markInt64S.f k g (1 + f.length)) (1 + f.length + g.length, up (1 + f.length) g.length) := mark_up g (by omega) (1 + f.length) (by omega) (by omega)
  have n1 : ¬ ((1 + f.length + g.length : Int) < 0) := by omega
  have f9 : Ev (fun k => laws_eqInt64S.f k r r) true := eqI_same r (by omega)
  have f10 : Ev (fun k => laws_markInt64S.f k r (1)) (1 + r.length, up (1) r.length) := mark_up r (by omega) (1) (by omega) (by omega)
  have f11 : Ev (fun k => laws_heldInt64S.f k (up (1) r.length) (1)) (1 + r.length) := held_up r.length (by omega) (1) (by omega) (by omega)
  have m0 : ¬ ((1 + r.length : Int) < 0) := by omega
  refine Ev.rounds ?_
  simp only [laws_FnExactCommonRoots.f, if_neg hl0, if_neg hl1]
  repeat (first | exact Ev.now _ | (refine Ev.bind (by assumption) ?_; try simp only [Option.bind_some, bne_self_eq_false, Bool.false_eq_true, Bool.not_true, Bool.not_false, Bool.or_false, Bool.or_self, eq_self, if_true, if_false, ite_self, if_neg n1, if_neg m0]) | (refine Ev.succ ?_; simp only [laws_FnExactCommonRoots.j0, laws_FnExactCommonRoots.j1, laws_FnExactCommonRoots.j2]; try simp only [Option.bind_some, bne_self_eq_false, Bool.false_eq_true, Bool.not_true, Bool.not_false, Bool.or_false, Bool.or_self, eq_self, if_true, if_false, ite_self, if_neg n1, if_neg m0]))
end Go.Proofs.Ytnhbpcfcgpcdfaa.Pure

