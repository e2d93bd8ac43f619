/- FnExactGcdPolys: the program's GcdPolys answers as the reference's at all arguments. No condition. -/
import Derived.Test.YtfbehafhiialcaaVFnExactGcdPolys
import Derived.Test.YtfbehafhiialcaaMa4
import Derived.Test.YtfbehafhiialcaaMa8
import Derived.Test.YtfbehafhiialcaaMabcd2
import Derived.Test.YtfbehafhiialcaaMabcd3
import Derived.Test.YtfbehafhiialcaaMa7
import Derived.Test.YtfbehafhiialcaaRows
import Derived.Test.YtfbehafhiialcaaWSized
set_option linter.unusedVariables false
set_option linter.unusedSimpArgs false
namespace Go.Proofs.Ytfbehafhiialcaa.Pure
open Go.RowKit Go.Proofs.Ytfbehafhiialcaa.H Go.Proofs.YtfbehafhiialcaaW.PrintWords Go.Proofs.YtfbehafhiialcaaW.PrintLast Go.Proofs.YtfbehafhiialcaaW.PrintMore Go.Proofs.Ytfbehafhiialcaa.Num

theorem same (p : Int) (f : List Int) (g : List Int) (hf : f.length ≤ 1048576) (hg : g.length ≤ 1048576) : ∃ (r : List Int) (e : Int), r.length ≤ 1000 ∧ Ev (fun k => spec_GcdPolys.f k p f g) (r, e) ∧ Ev (fun k => impl_GcdPolys.f k p f g) (r, e) := by
  have h1 := spec_code p [f, g] (by simp) (by simp; omega)
  have h2 := impl_code2 p true f g
  by_cases hc : codeL p true [f, g] = 0
  · obtain ⟨hp, _, hq⟩ := codeL_0 hc
    have pf := hq f (by simp)
    have pg := hq g (by simp)
    rw [hc] at h1 h2
    refine ⟨gcdL p f g, 0, by have := gcdL_len hp pf pg; omega, ?_, ?_⟩
    · simp only [spec_GcdPolys.f]
      refine Ev.bind h1 ?_
      simp only [eq_self, if_true]
      exact Ev.bind (spec_gcd hp pf pg) (Ev.now _)
    · simp only [impl_GcdPolys.f]
      refine Ev.bind h2 ?_
      simp only [eq_self, if_true]
      exact Ev.bind (impl_gcd hp pf pg) (Ev.now _)
  · refine ⟨[], codeL p true [f, g], by simp, ?_, ?_⟩
    · simp only [spec_GcdPolys.f]
      refine Ev.bind h1 ?_
      simp only [if_neg hc]
      exact Ev.now _
    · simp only [impl_GcdPolys.f]
      refine Ev.bind h2 ?_
      simp only [if_neg hc]
      exact Ev.now _

theorem FnExactGcdPolys : laws_FnExactGcdPolys.Pure := by
  intro p f g _ _ _ _ _ _ _
  by_cases hl0 : (f.length : Int) > 1048576
  · exact ⟨0, by simp only [laws_FnExactGcdPolys.f, if_pos hl0]⟩
  by_cases hl1 : (g.length : Int) > 1048576
  · exact ⟨0, by simp only [laws_FnExactGcdPolys.f, if_neg hl0, if_pos hl1]⟩
  obtain ⟨r, e, hr, f1, f2⟩ := same p f g (by omega) (by omega)
  have f3 : Ev (fun k => laws_toInt64S.f k f) f := toI_same f (by omega)
  have f4 : Ev (fun k => laws_eqInt64S.f k f f) true := eqI_same f (by omega)
  have f5 : Ev (fun k => laws_toInt64S.f k g) g := toI_same g (by omega)
  have f6 : Ev (fun k => laws_eqInt64S.f k g g) true := eqI_same g (by omega)
  have f7 : Ev (fun k => laws_markInt64S.f k f (1)) (1 + f.length, up (1) f.length) := mark_up f (by omega) (1) (by omega) (by omega)
  have f8 : Ev (fun k => laws_markInt64S.f k g (1 + f.length)) (1 + f.length + g.length, up (1 + f.length) g.length) := mark_up g (by omega) (1 + f.length) (by omega) (by omega)
  have n1 : ¬ ((1 + f.length + g.length : Int) < 0) := by omega
  have f9 : Ev (fun k => laws_eqInt64S.f k r r) true := eqI_same r (by omega)
  have f10 : Ev (fun k => laws_markInt64S.f k r (1)) (1 + r.length, up (1) r.length) := mark_up r (by omega) (1) (by omega) (by omega)
  have f11 : Ev (fun k => laws_heldInt64S.f k (up (1) r.length) (1)) (1 + r.length) := held_up r.length (by omega) (1) (by omega) (by omega)
  have m0 : ¬ ((1 + r.length : Int) < 0) := by omega
  refine Ev.rounds ?_
  simp only [laws_FnExactGcdPolys.f, if_neg hl0, if_neg hl1]
  repeat (first | exact Ev.now _ | (refine Ev.bind (by assumption) ?_; try simp only [Option.bind_some, bne_self_eq_false, Bool.false_eq_true, Bool.not_true, Bool.not_false, Bool.or_false, Bool.or_self, eq_self, if_true, if_false, ite_self, if_neg n1, if_neg m0]) | (refine Ev.succ ?_; simp only [laws_FnExactGcdPolys.j0, laws_FnExactGcdPolys.j1, laws_FnExactGcdPolys.j2]; try simp only [Option.bind_some, bne_self_eq_false, Bool.false_eq_true, Bool.not_true, Bool.not_false, Bool.or_false, Bool.or_self, eq_self, if_true, if_false, ite_self, if_neg n1, if_neg m0]))
end Go.Proofs.Ytfbehafhiialcaa.Pure

