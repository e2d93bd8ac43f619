/- FnExactMultiplicityOf: the program's MultiplicityOf answers as the reference's at all arguments. No condition. -/
import Derived.Test.YtfbehafhiialcaaMabcdef11
import Derived.Test.YtfbehafhiialcaaMd1
import Derived.Test.YtfbehafhiialcaaMabcdef3
import Derived.Test.YtfbehafhiialcaaMd2
set_option linter.unusedVariables false
set_option linter.unusedSimpArgs false
namespace Go.Proofs.Ytfbehafhiialcaa.Pure
open Go.RowKit Go.Proofs.Ytfbehafhiialcaa.H Go.Proofs.YtfbehafhiialcaaW.PrintWords Go.Proofs.YtfbehafhiialcaaW.PrintLast Go.Proofs.YtfbehafhiialcaaW.PrintMore Go.Proofs.Ytfbehafhiialcaa.Num

theorem same (p : Int) (f : List Int) (c : Int) (hf : f.length ≤ 1048576) : ∃ (r e : Int), Ev (fun k => spec_MultiplicityOf.f k p f c) (r, e) ∧ Ev (fun k => impl_MultiplicityOf.f k p f c) (r, e) := by
  have h1 := spec_code p [f] (by simp) (by simp; omega)
  have h2 := impl_fill1 p (hasB p c) f
  have h3 := spec_code6 p [f] (by simp) (by simp; omega)
  rcases code_cases p (hasB p c) [f] with ⟨hc, hb⟩ | ⟨hc, hx, hb, hp⟩ | ⟨hc, hx, hb, hp, hq⟩
  · rw [hb] at h2
    have e : fillL (codeL p true [f]) [f] = codeL p true [f] := by unfold fillL; rw [if_neg hc]
    rw [e] at h2
    refine ⟨0, codeL p true [f], ?_, ?_⟩
    · simp only [spec_MultiplicityOf.f]
      refine Ev.bind h1 ?_
      simp only [if_neg hc]
      repeat (first | exact Ev.now _ | (refine Ev.bind (by assumption) ?_; try simp only [Option.bind_some, bne_self_eq_false, Bool.false_eq_true, Bool.not_true, Bool.not_false, Bool.or_false, Bool.or_self, eq_self, if_true, if_false, ite_self, if_neg hc]) | (refine Ev.succ ?_; simp only [spec_MultiplicityOf.j0, spec_MultiplicityOf.j1]; try simp only [Option.bind_some, bne_self_eq_false, Bool.false_eq_true, Bool.not_true, Bool.not_false, Bool.or_false, Bool.or_self, eq_self, if_true, if_false, ite_self, if_neg hc]))
    · simp only [impl_MultiplicityOf.f]
      refine Ev.bind h2 ?_
      simp only [if_neg hc]
      exact Ev.now _
  · have hin := in_has hp c
    rw [hx] at hin
    rw [hc] at h1
    rw [hb] at h2
    have e : fillL 2 [f] = 2 := by simp [fillL]
    rw [e] at h2
    refine ⟨0, 2, ?_, ?_⟩
    · simp only [spec_MultiplicityOf.f]
      refine Ev.bind h1 ?_
      simp only [eq_self, if_true, hin, Option.bind_some, Bool.not_false]
      repeat (first | exact Ev.now _ | (refine Ev.bind (by assumption) ?_; try simp only [Option.bind_some, bne_self_eq_false, Bool.false_eq_true, Bool.not_true, Bool.not_false, Bool.or_false, Bool.or_self, eq_self, if_true, if_false, ite_self, show ¬ ((2 : Int) = 0) by omega]) | (refine Ev.succ ?_; simp only [spec_MultiplicityOf.j0, spec_MultiplicityOf.j1]; try simp only [Option.bind_some, bne_self_eq_false, Bool.false_eq_true, Bool.not_true, Bool.not_false, Bool.or_false, Bool.or_self, eq_self, if_true, if_false, ite_self, show ¬ ((2 : Int) = 0) by omega]))
    · simp only [impl_MultiplicityOf.f]
      refine Ev.bind h2 ?_
      simp only [show ¬ ((2 : Int) = 0) by omega, if_false]
      exact Ev.now _
  · have hin := in_has hp c
    rw [hx] at hin
    rw [hc] at h1 h3
    rw [hb] at h2
    have pf := hq f (by simp)
    by_cases h0 : 0 < f.length
    · have e : fillL 0 [f] = 0 := by simp [fillL, h0]
      rw [e] at h2 h3
      refine ⟨multL p f c, 0, ?_, ?_⟩
      · simp only [spec_MultiplicityOf.f]
        refine Ev.bind h1 ?_
        simp only [eq_self, if_true, hin, Option.bind_some, Bool.not_true]
        refine Ev.succ ?_
        simp only [spec_MultiplicityOf.j0, Bool.false_eq_true, if_false]
        refine Ev.succ ?_
        simp only [spec_MultiplicityOf.j1, eq_self, if_true]
        refine Ev.bind h3 ?_
        simp only [eq_self, if_true]
        exact Ev.bind (spec_mult hp (hasB_iff.1 hx) pf h0) (Ev.now _)
      · simp only [impl_MultiplicityOf.f]
        refine Ev.bind h2 ?_
        simp only [eq_self, if_true]
        exact Ev.bind (impl_mult hp (hasB_iff.1 hx) pf h0) (Ev.now _)
    · have e : fillL 0 [f] = 5 := by simp [fillL, h0]
      rw [e] at h2 h3
      refine ⟨0, 5, ?_, ?_⟩
      · simp only [spec_MultiplicityOf.f]
        refine Ev.bind h1 ?_
        simp only [eq_self, if_true, hin, Option.bind_some, Bool.not_true]
        refine Ev.succ ?_
        simp only [spec_MultiplicityOf.j0, Bool.false_eq_true, if_false]
        refine Ev.succ ?_
        simp only [spec_MultiplicityOf.j1, eq_self, if_true]
        refine Ev.bind h3 ?_
        simp only [show ¬ ((5 : Int) = 0) by omega, if_false]
        exact Ev.now _
      · simp only [impl_MultiplicityOf.f]
        refine Ev.bind h2 ?_
        simp only [show ¬ ((5 : Int) = 0) by omega, if_false]
        exact Ev.now _

theorem FnExactMultiplicityOf : laws_FnExactMultiplicityOf.Pure := by
  intro p f c _ _ _ _ _
  by_cases hl0 : (f.length : Int) > 1048576
  · exact ⟨0, by simp only [laws_FnExactMultiplicityOf.f, if_pos hl0]⟩
  obtain ⟨r, e, f1, f2⟩ := same p f c (by omega)
  have f3 : Ev (fun k => laws_toInt64S.f k f) f := toI_same f (by omega)
  have f4 : Ev (fun k => laws_eqInt64S.f k f f) true := eqI_same f (by omega)
  refine Ev.rounds ?_
  simp only [laws_FnExactMultiplicityOf.f, if_neg hl0]
  repeat (first | exact Ev.now _ | (refine Ev.bind (by assumption) ?_; try simp only [Option.bind_some, bne_self_eq_false, Bool.false_eq_true, Bool.not_true, Bool.not_false, Bool.or_false, Bool.or_self, eq_self, if_true, if_false, ite_self]) | (refine Ev.succ ?_; simp only [laws_FnExactMultiplicityOf.j0]; try simp only [Option.bind_some, bne_self_eq_false, Bool.false_eq_true, Bool.not_true, Bool.not_false, Bool.or_false, Bool.or_self, eq_self, if_true, if_false, ite_self]))
end Go.Proofs.Ytfbehafhiialcaa.Pure

