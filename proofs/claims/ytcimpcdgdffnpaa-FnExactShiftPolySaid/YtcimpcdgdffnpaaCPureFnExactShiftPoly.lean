/- FnExactShiftPoly: the program's ShiftPoly answers as the reference's at all arguments. No condition. -/
import Derived.Test.YtcimpcdgdffnpaaMabcdef10
import Derived.Test.YtcimpcdgdffnpaaMb1
import Derived.Test.YtcimpcdgdffnpaaMabcdef1
import Derived.Test.YtcimpcdgdffnpaaMabcdef9
import Derived.Test.YtcimpcdgdffnpaaMb2
import Derived.Test.YtcimpcdgdffnpaaMabcdef2
import Derived.Test.YtcimpcdgdffnpaaMabcdef3
set_option linter.unusedVariables false
set_option linter.unusedSimpArgs false
namespace Go.Proofs.Ytcimpcdgdffnpaa.Pure
open Go.RowKit Go.Proofs.Ytcimpcdgdffnpaa.H Go.Proofs.YtcimpcdgdffnpaaW.PrintWords Go.Proofs.YtcimpcdgdffnpaaW.PrintLast Go.Proofs.YtcimpcdgdffnpaaW.PrintMore Go.Proofs.Ytcimpcdgdffnpaa.Num

theorem same (p : Int) (f : List Int) (c : Int) (hf : f.length ≤ 1048576) : ∃ (r : List Int) (e : Int), r.length ≤ 1000 ∧ Ev (fun k => spec_ShiftPoly.f k p f c) (r, e) ∧ Ev (fun k => impl_ShiftPoly.f k p f c) (r, e) := by
  have h1 := spec_code p [f] (by simp) (by simp; omega)
  have h2 := impl_code1 p (hasB p c) f
  rcases code_cases p (hasB p c) [f] with ⟨hc, hb⟩ | ⟨hc, hx, hb, hp⟩ | ⟨hc, hx, hb, hp, hq⟩
  · refine ⟨[], codeL p true [f], by simp, ?_, ?_⟩
    · simp only [spec_ShiftPoly.f]
      refine Ev.bind h1 ?_
      simp only [if_neg hc]
      repeat (first | exact Ev.now _ | (refine Ev.bind (by assumption) ?_; try simp only [Option.bind_some, bne_self_eq_false, Bool.false_eq_true, Bool.not_true, Bool.not_false, Bool.or_false, Bool.or_self, eq_self, if_true, if_false, ite_self, if_neg hc]) | (refine Ev.succ ?_; simp only [spec_ShiftPoly.j0]; try simp only [Option.bind_some, bne_self_eq_false, Bool.false_eq_true, Bool.not_true, Bool.not_false, Bool.or_false, Bool.or_self, eq_self, if_true, if_false, ite_self, if_neg hc]))
    · rw [hb] at h2
      simp only [impl_ShiftPoly.f]
      refine Ev.bind h2 ?_
      simp only [if_neg hc]
      exact Ev.now _
  · have hin := in_has hp c
    rw [hx] at hin
    rw [hc] at h1
    refine ⟨[], 2, by simp, ?_, ?_⟩
    · simp only [spec_ShiftPoly.f]
      refine Ev.bind h1 ?_
      simp only [eq_self, if_true, hin, Option.bind_some, Bool.not_false]
      repeat (first | exact Ev.now _ | (refine Ev.bind (by assumption) ?_; try simp only [Option.bind_some, bne_self_eq_false, Bool.false_eq_true, Bool.not_true, Bool.not_false, Bool.or_false, Bool.or_self, eq_self, if_true, if_false, ite_self, show ¬ ((2 : Int) = 0) by omega]) | (refine Ev.succ ?_; simp only [spec_ShiftPoly.j0]; try simp only [Option.bind_some, bne_self_eq_false, Bool.false_eq_true, Bool.not_true, Bool.not_false, Bool.or_false, Bool.or_self, eq_self, if_true, if_false, ite_self, show ¬ ((2 : Int) = 0) by omega]))
    · rw [hb] at h2
      simp only [impl_ShiftPoly.f]
      refine Ev.bind h2 ?_
      simp only [show ¬ ((2 : Int) = 0) by omega, if_false]
      exact Ev.now _
  · have hin := in_has hp c
    rw [hx] at hin
    rw [hc] at h1
    have hq := hq f (by simp)
    have hx' := hasB_iff.1 hx
    have hr2 : InR p [c, 1] := fun y hy => by rcases List.mem_cons.1 hy with rfl | hy; exact hx'; rw [List.mem_singleton.1 hy]; have := hp.p2; omega
    have hs := spec_comp hp.p2 hp.pm hq.inR hr2 hq.len (by simp)
    have hi := impl_comp hp.p2 hp.pm hq.inR hr2 hq.len (by simp)
    refine ⟨compL p f [c, 1], 0, by have := compL_len (p := p) f [c, 1] (by simp); have := hq.len; omega, ?_, ?_⟩
    · simp only [spec_ShiftPoly.f]
      refine Ev.bind h1 ?_
      simp only [eq_self, if_true, hin, Option.bind_some, Bool.not_true]
      repeat (first | exact Ev.now _ | (refine Ev.bind (by assumption) ?_; try simp only [Option.bind_some, bne_self_eq_false, Bool.false_eq_true, Bool.not_true, Bool.not_false, Bool.or_false, Bool.or_self, eq_self, if_true, if_false, ite_self]) | (refine Ev.succ ?_; simp only [spec_ShiftPoly.j0]; try simp only [Option.bind_some, bne_self_eq_false, Bool.false_eq_true, Bool.not_true, Bool.not_false, Bool.or_false, Bool.or_self, eq_self, if_true, if_false, ite_self]))
    · rw [hb] at h2
      simp only [impl_ShiftPoly.f]
      refine Ev.bind h2 ?_
      simp only [eq_self, if_true]
      simp only [hi, Option.bind_some]
      exact Ev.now _

theorem FnExactShiftPoly : laws_FnExactShiftPoly.Pure := by
  intro p f c _ _ _ _ _
  by_cases hl0 : (f.length : Int) > 1048576
  · exact ⟨0, by simp only [laws_FnExactShiftPoly.f, if_pos hl0]⟩
  obtain ⟨r, e, hr, f1, f2⟩ := same p f c (by omega)
  have f3 : Ev (fun k => laws_toInt64S.f k f) f := toI_same f (by omega)
  have f4 : Ev (fun k => laws_eqInt64S.f k f f) true := eqI_same f (by omega)
  have f5 : Ev (fun k => laws_markInt64S.f k f (1)) (1 + f.length, up (1) f.length) := mark_up f (by omega) (1) (by omega) (by omega)
  have n1 : ¬ ((1 + f.length : Int) < 0) := by omega
  have f6 : Ev (fun k => laws_eqInt64S.f k r r) true := eqI_same r (by omega)
  have f7 : Ev (fun k => laws_markInt64S.f k r (1)) (1 + r.length, up (1) r.length) := mark_up r (by omega) (1) (by omega) (by omega)
  have f8 : Ev (fun k => laws_heldInt64S.f k (up (1) r.length) (1)) (1 + r.length) := held_up r.length (by omega) (1) (by omega) (by omega)
  have m0 : ¬ ((1 + r.length : Int) < 0) := by omega
  refine Ev.rounds ?_
  simp only [laws_FnExactShiftPoly.f, if_neg hl0]
  repeat (first | exact Ev.now _ | (refine Ev.bind (by assumption) ?_; try simp only [Option.bind_some, bne_self_eq_false, Bool.false_eq_true, Bool.not_true, Bool.not_false, Bool.or_false, Bool.or_self, eq_self, if_true, if_false, ite_self, if_neg n1, if_neg m0]) | (refine Ev.succ ?_; simp only [laws_FnExactShiftPoly.j0, laws_FnExactShiftPoly.j1, laws_FnExactShiftPoly.j2]; try simp only [Option.bind_some, bne_self_eq_false, Bool.false_eq_true, Bool.not_true, Bool.not_false, Bool.or_false, Bool.or_self, eq_self, if_true, if_false, ite_self, if_neg n1, if_neg m0]))
end Go.Proofs.Ytcimpcdgdffnpaa.Pure

