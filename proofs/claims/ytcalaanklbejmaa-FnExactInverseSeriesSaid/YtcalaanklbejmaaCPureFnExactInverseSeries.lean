/- FnExactInverseSeries: the program's InverseSeries answers as the reference's at all arguments. No condition. -/
import Derived.Test.YtcalaanklbejmaaVFnExactInverseSeries
import Derived.Test.YtcalaanklbejmaaMb1
import Derived.Test.YtcalaanklbejmaaMab1
import Derived.Test.YtcalaanklbejmaaMabc2
import Derived.Test.YtcalaanklbejmaaMb2
import Derived.Test.YtcalaanklbejmaaMabc3
import Derived.Test.YtcalaanklbejmaaRows
import Derived.Test.YtcalaanklbejmaaWSized
set_option linter.unusedVariables false
set_option linter.unusedSimpArgs false
namespace Go.Proofs.Ytcalaanklbejmaa.Pure
open Go.RowKit Go.Proofs.Ytcalaanklbejmaa.H Go.Proofs.YtcalaanklbejmaaW.PrintWords Go.Proofs.YtcalaanklbejmaaW.PrintLast Go.Proofs.YtcalaanklbejmaaW.PrintMore Go.Proofs.Ytcalaanklbejmaa.Num

theorem within_iff {x a b : Int} : withinB x a b = true ↔ a ≤ x ∧ x ≤ b := by unfold withinB; rw [Bool.and_eq_true, decide_eq_true_eq, decide_eq_true_eq]
theorem arNum_iff {p a b : Int} {l : List Int} (h : arNum p l a b = true) : IsP p ∧ a ≤ l.length ∧ l.length ≤ b ∧ InR p l := by
  simp only [arNum, Bool.and_eq_true] at h
  have hw := within_iff.1 h.2.1
  exact ⟨primeB_iff.1 h.1, hw.1, hw.2, fun x hx => hasB_iff.1 (List.all_eq_true.1 h.2.2 x hx)⟩
theorem same (p : Int) (f : List Int) (hf : f.length ≤ 1048576) : ∃ (r : List Int) (e : Int), r.length ≤ 1000 ∧ Ev (fun k => spec_InverseSeries.f k p f) (r, e) ∧ Ev (fun k => impl_InverseSeries.f k p f) (r, e) := by
  have s1 := spec_given (p := p) (a := 1) (l := f) (by omega)
  have i1 := impl_numbers p f 1 24
  have iL : impl_length_int64.f f = some (f.length : Int) := by simp only [impl_length_int64.f]
  cases hA : arNum p f 1 24 with
  | false =>
    rw [hA] at s1 i1
    refine ⟨[], 2, by simp, ?_, ?_⟩
    · simp only [spec_InverseSeries.f]
      refine Ev.bind s1 ?_
      simp only [Bool.false_eq_true, if_false]; exact Ev.now _
    · simp only [impl_InverseSeries.f]
      refine Ev.bind i1 ?_
      simp only [Bool.false_eq_true, if_false]; exact Ev.now _
  | true =>
    rw [hA] at s1 i1
    obtain ⟨hp, a1, a2, ra⟩ := arNum_iff hA
    have h0 : 0 < f.length := by omega
    by_cases hz : rd f 0 = 0
    · refine ⟨[], 5, by simp, ?_, ?_⟩
      · simp only [spec_InverseSeries.f]
        refine Ev.bind s1 ?_
        simp (disch := omega) only [if_true, if_pos, if_pos hz]; exact Ev.now _
      · simp only [impl_InverseSeries.f]
        refine Ev.bind i1 ?_
        simp (disch := omega) only [if_true, if_pos, if_pos hz]; exact Ev.now _
    · have r1 : InR p [1] := InR.one (by have := hp.p2; omega)
      refine ⟨serO p [1] f f.length, 0, by rw [serO_len]; omega, ?_, ?_⟩
      · simp only [spec_InverseSeries.f]
        refine Ev.bind s1 ?_
        simp (disch := omega) only [if_true, if_pos, if_neg hz]
        exact Ev.bind (spec_series hp r1 ra h0 (by omega) (by simp) (by omega)) (Ev.now _)
      · simp only [impl_InverseSeries.f]
        refine Ev.bind i1 ?_
        simp (disch := omega) only [if_true, if_pos, if_neg hz, iL, Option.bind_some]
        exact Ev.bind (impl_series hp r1 ra h0 (by omega) (by simp) (by omega)) (Ev.now _)

theorem FnExactInverseSeries : laws_FnExactInverseSeries.Pure := by
  intro p f _ _ _ _
  by_cases hl0 : (f.length : Int) > 1048576
  · exact ⟨0, by simp only [laws_FnExactInverseSeries.f, if_pos hl0]⟩
  obtain ⟨r, e, hr, f1, f2⟩ := same p f (by omega)
  have f3 : Ev (fun k => laws_toInt64S.f k f) f := toI_same f (by omega)
  have f4 : Ev (fun k => laws_eqInt64S.f k f f) true := eqI_same f (by omega)
  have f5 : Ev (fun k => laws_markInt64S.f k f (1)) (1 + f.length, up (1) f.length) := mark_up f (by omega) (1) (by omega) (by omega)
  have n1 : ¬ ((1 + f.length : Int) < 0) := by omega
  have f6 : Ev (fun k => laws_eqInt64S.f k r r) true := eqI_same r (by omega)
  have f7 : Ev (fun k => laws_markInt64S.f k r (1)) (1 + r.length, up (1) r.length) := mark_up r (by omega) (1) (by omega) (by omega)
  have f8 : Ev (fun k => laws_heldInt64S.f k (up (1) r.length) (1)) (1 + r.length) := held_up r.length (by omega) (1) (by omega) (by omega)
  have m0 : ¬ ((1 + r.length : Int) < 0) := by omega
  refine Ev.rounds ?_
  simp only [laws_FnExactInverseSeries.f, if_neg hl0]
  repeat (first | exact Ev.now _ | (refine Ev.bind (by assumption) ?_; try simp only [Option.bind_some, bne_self_eq_false, Bool.false_eq_true, Bool.not_true, Bool.not_false, Bool.or_false, Bool.or_self, eq_self, if_true, if_false, ite_self, if_neg n1, if_neg m0]) | (refine Ev.succ ?_; simp only [laws_FnExactInverseSeries.j0, laws_FnExactInverseSeries.j1, laws_FnExactInverseSeries.j2]; try simp only [Option.bind_some, bne_self_eq_false, Bool.false_eq_true, Bool.not_true, Bool.not_false, Bool.or_false, Bool.or_self, eq_self, if_true, if_false, ite_self, if_neg n1, if_neg m0]))
end Go.Proofs.Ytcalaanklbejmaa.Pure

