/- FnExactValueAt: the program's ValueAt answers as the reference's at all arguments. No condition. -/
import Derived.Test.YtcimpcdgdffnpaaMabcdef10
import Derived.Test.YtcimpcdgdffnpaaMa1
import Derived.Test.YtcimpcdgdffnpaaMabcdef1
import Derived.Test.YtcimpcdgdffnpaaMa2
import Derived.Test.YtcimpcdgdffnpaaMabcdef2
set_option linter.unusedVariables false
set_option linter.unusedSimpArgs false
namespace Go.Proofs.Ytcimpcdgdffnpaa.Pure
open Go.RowKit Go.Proofs.Ytcimpcdgdffnpaa.H Go.Proofs.YtcimpcdgdffnpaaW.PrintWords Go.Proofs.YtcimpcdgdffnpaaW.PrintLast Go.Proofs.YtcimpcdgdffnpaaW.PrintMore Go.Proofs.Ytcimpcdgdffnpaa.Num

theorem same (p : Int) (f : List Int) (c : Int) (hf : f.length ≤ 1048576) : ∃ (r : Int) (e : Int), Ev (fun k => spec_ValueAt.f k p f c) (r, e) ∧ Ev (fun k => impl_ValueAt.f k p f c) (r, e) := by
  have h1 := spec_code p [f] (by simp) (by simp; omega)
  have h2 := impl_code1 p (hasB p c) f
  rcases code_cases p (hasB p c) [f] with ⟨hc, hb⟩ | ⟨hc, hx, hb, hp⟩ | ⟨hc, hx, hb, hp, hq⟩
  · refine ⟨0, codeL p true [f], ?_, ?_⟩
    · simp only [spec_ValueAt.f]
      refine Ev.bind h1 ?_
      simp only [if_neg hc]
      repeat (first | exact Ev.now _ | (refine Ev.bind (by assumption) ?_; try simp only [Option.bind_some, bne_self_eq_false, Bool.false_eq_true, Bool.not_true, Bool.not_false, Bool.or_false, Bool.or_self, eq_self, if_true, if_false, ite_self, if_neg hc]) | (refine Ev.succ ?_; simp only [spec_ValueAt.j0]; try simp only [Option.bind_some, bne_self_eq_false, Bool.false_eq_true, Bool.not_true, Bool.not_false, Bool.or_false, Bool.or_self, eq_self, if_true, if_false, ite_self, if_neg hc]))
    · rw [hb] at h2
      simp only [impl_ValueAt.f]
      refine Ev.bind h2 ?_
      simp only [if_neg hc]
      exact Ev.now _
  · have hin := in_has hp c
    rw [hx] at hin
    rw [hc] at h1
    refine ⟨0, 2, ?_, ?_⟩
    · simp only [spec_ValueAt.f]
      refine Ev.bind h1 ?_
      simp only [eq_self, if_true, hin, Option.bind_some, Bool.not_false]
      repeat (first | exact Ev.now _ | (refine Ev.bind (by assumption) ?_; try simp only [Option.bind_some, bne_self_eq_false, Bool.false_eq_true, Bool.not_true, Bool.not_false, Bool.or_false, Bool.or_self, eq_self, if_true, if_false, ite_self, show ¬ ((2 : Int) = 0) by omega]) | (refine Ev.succ ?_; simp only [spec_ValueAt.j0]; try simp only [Option.bind_some, bne_self_eq_false, Bool.false_eq_true, Bool.not_true, Bool.not_false, Bool.or_false, Bool.or_self, eq_self, if_true, if_false, ite_self, show ¬ ((2 : Int) = 0) by omega]))
    · rw [hb] at h2
      simp only [impl_ValueAt.f]
      refine Ev.bind h2 ?_
      simp only [show ¬ ((2 : Int) = 0) by omega, if_false]
      exact Ev.now _
  · have hin := in_has hp c
    rw [hx] at hin
    rw [hc] at h1
    have hq := hq f (by simp)
    have hx' := hasB_iff.1 hx
    have hs := spec_val hp.p2 hp.pm (by have := hq.len; omega) hq.inR hx'
    have hi := impl_val hp.p2 hp.pm hq.inR hx'
    refine ⟨valL p f c, 0, ?_, ?_⟩
    · simp only [spec_ValueAt.f]
      refine Ev.bind h1 ?_
      simp only [eq_self, if_true, hin, Option.bind_some, Bool.not_true]
      repeat (first | exact Ev.now _ | (refine Ev.bind (by assumption) ?_; try simp only [Option.bind_some, bne_self_eq_false, Bool.false_eq_true, Bool.not_true, Bool.not_false, Bool.or_false, Bool.or_self, eq_self, if_true, if_false, ite_self]) | (refine Ev.succ ?_; simp only [spec_ValueAt.j0]; try simp only [Option.bind_some, bne_self_eq_false, Bool.false_eq_true, Bool.not_true, Bool.not_false, Bool.or_false, Bool.or_self, eq_self, if_true, if_false, ite_self]))
    · rw [hb] at h2
      simp only [impl_ValueAt.f]
      refine Ev.bind h2 ?_
      simp only [eq_self, if_true]
      simp only [hi, Option.bind_some]
      exact Ev.now _

theorem FnExactValueAt : laws_FnExactValueAt.Pure := by
  intro p f c _ _ _ _ _
  by_cases hl0 : (f.length : Int) > 1048576
  · exact ⟨0, by simp only [laws_FnExactValueAt.f, if_pos hl0]⟩
  obtain ⟨r, e, f1, f2⟩ := same p f c (by omega)
  have f3 : Ev (fun k => laws_toInt64S.f k f) f := toI_same f (by omega)
  have f4 : Ev (fun k => laws_eqInt64S.f k f f) true := eqI_same f (by omega)
  refine Ev.rounds ?_
  simp only [laws_FnExactValueAt.f, if_neg hl0]
  repeat (first | exact Ev.now _ | (refine Ev.bind (by assumption) ?_; try simp only [Option.bind_some, bne_self_eq_false, Bool.false_eq_true, Bool.not_true, Bool.not_false, Bool.or_false, Bool.or_self, eq_self, if_true, if_false, ite_self]) | (refine Ev.succ ?_; simp only [laws_FnExactValueAt.j0]; try simp only [Option.bind_some, bne_self_eq_false, Bool.false_eq_true, Bool.not_true, Bool.not_false, Bool.or_false, Bool.or_self, eq_self, if_true, if_false, ite_self]))
end Go.Proofs.Ytcimpcdgdffnpaa.Pure

