/- FnExactSeriesOf: the program's SeriesOf answers as the reference's at all arguments. No condition. -/
import Derived.Test.YtcalaanklbejmaaVFnExactSeriesOf
import Derived.Test.YtcalaanklbejmaaMc1
import Derived.Test.YtcalaanklbejmaaMabc2
import Derived.Test.YtcalaanklbejmaaMc3
import Derived.Test.YtcalaanklbejmaaMabc3
import Derived.Test.YtcalaanklbejmaaMc2
import Derived.Test.YtcalaanklbejmaaRows
import Derived.Test.YtcalaanklbejmaaWSized
set_option linter.unusedVariables false
set_option linter.unusedSimpArgs false
namespace Go.Proofs.Ytcalaanklbejmaa.Pure
open Go.RowKit Go.Proofs.Ytcalaanklbejmaa.H Go.Proofs.YtcalaanklbejmaaW.PrintWords Go.Proofs.YtcalaanklbejmaaW.PrintLast Go.Proofs.YtcalaanklbejmaaW.PrintMore Go.Proofs.Ytcalaanklbejmaa.Num

theorem within_iff {x a b : Int} : withinB x a b = true ↔ a ≤ x ∧ x ≤ b := by unfold withinB; rw [Bool.and_eq_true, decide_eq_true_eq, decide_eq_true_eq]
theorem same (p : Int) (f g : List Int) (n : Int) (hf : f.length ≤ 1048576) (hg : g.length ≤ 1048576) : ∃ (r : List Int) (e : Int), r.length ≤ 1000 ∧ Ev (fun k => spec_SeriesOf.f k p f g n) (r, e) ∧ Ev (fun k => impl_SeriesOf.f k p f g n) (r, e) := by
  have h1 := spec_code p [f, g] (by simp) (by simp; omega)
  have h2 := impl_code2 p (withinB n 0 24) f g
  have sJ : ∀ (c d : Int), c ≠ 0 → Ev (fun k => spec_SeriesOf.j1 k p f g n c) ([], c) := by
    intro c d hc
    refine Ev.succ ?_; simp only [spec_SeriesOf.j1, if_neg hc]
    refine Ev.succ ?_; simp only [spec_SeriesOf.j2, Bool.false_eq_true, if_false, if_neg hc]; exact Ev.now _
  rcases code_cases p (withinB n 0 24) [f, g] with ⟨hc, he⟩ | ⟨hc, hb, he, hp⟩ | ⟨hc, hb, he, hp, hq⟩
  · rw [he] at h2
    refine ⟨[], codeL p true [f, g], by simp, ?_, ?_⟩
    · simp only [spec_SeriesOf.f]
      refine Ev.bind h1 ?_
      simp only [if_neg hc]
      refine Ev.succ ?_; simp only [spec_SeriesOf.j0, Bool.false_eq_true, if_false]
      exact sJ _ 0 hc
    · simp only [impl_SeriesOf.f]
      refine Ev.bind h2 ?_
      simp only [if_neg hc]; exact Ev.now _
  · rw [he] at h2
    rw [hc] at h1
    refine ⟨[], 2, by simp, ?_, ?_⟩
    · simp only [spec_SeriesOf.f]
      refine Ev.bind h1 ?_
      simp only [if_true, in_within, hb, Option.bind_some, Bool.not_false]
      refine Ev.succ ?_; simp only [spec_SeriesOf.j0, if_true]
      exact sJ 2 0 (by decide)
    · simp only [impl_SeriesOf.f]
      refine Ev.bind h2 ?_
      simp only [if_neg (show ¬ ((2 : Int) = 0) by decide)]; exact Ev.now _
  · rw [he] at h2
    rw [hc] at h1
    have pf := hq f (by simp)
    have pg := hq g (by simp)
    have lf := pf.len
    have lg := pg.len
    have hn := within_iff.1 hb
    obtain ⟨m, rfl⟩ : ∃ m : Nat, n = m := ⟨n.toNat, by omega⟩
    have bad : (g.length = 0 ∨ rd g 0 = 0) → ∃ (r : List Int) (e : Int), r.length ≤ 1000 ∧ Ev (fun k => spec_SeriesOf.f k p f g m) (r, e) ∧ Ev (fun k => impl_SeriesOf.f k p f g m) (r, e) := by
      intro hz
      have sE : Ev (fun k => spec_SeriesOf.j2 k p f g m 0 true) ([], 5) := by refine Ev.succ ?_; simp only [spec_SeriesOf.j2, if_true]; exact Ev.now _
      refine ⟨[], 5, by simp, ?_, ?_⟩
      · simp only [spec_SeriesOf.f]
        refine Ev.bind h1 ?_
        simp only [if_true, in_within, hb, Option.bind_some, Bool.not_true]
        refine Ev.succ ?_; simp only [spec_SeriesOf.j0, Bool.false_eq_true, if_false]
        refine Ev.succ ?_; simp only [spec_SeriesOf.j1, if_true]
        by_cases h0 : g.length = 0
        · simp (disch := omega) only [if_pos]; exact sE
        · have hr : rd g 0 = 0 := hz.resolve_left h0
          simp (disch := omega) only [if_neg, if_pos, hr, beq_self_eq_true]; exact sE
      · simp only [impl_SeriesOf.f]
        refine Ev.bind h2 ?_
        simp only [if_true]
        by_cases h0 : g.length = 0
        · simp (disch := omega) only [if_pos]; exact Ev.now _
        · have hr : rd g 0 = 0 := hz.resolve_left h0
          simp (disch := omega) only [if_neg, if_pos, if_pos hr]; exact Ev.now _
    by_cases h0 : g.length = 0
    · exact bad (.inl h0)
    by_cases hr : rd g 0 = 0
    · exact bad (.inr hr)
    refine ⟨serO p f g m, 0, by rw [serO_len]; omega, ?_, ?_⟩
    · simp only [spec_SeriesOf.f]
      refine Ev.bind h1 ?_
      simp only [if_true, in_within, hb, Option.bind_some, Bool.not_true]
      refine Ev.succ ?_; simp only [spec_SeriesOf.j0, Bool.false_eq_true, if_false]
      refine Ev.succ ?_; simp only [spec_SeriesOf.j1, if_true]
      have hbe : (rd g 0 == 0) = false := beq_eq_false_iff_ne.mpr hr
      simp (disch := omega) only [if_neg, if_pos, hbe]
      refine Ev.succ ?_; simp only [spec_SeriesOf.j2, Bool.false_eq_true, if_false, if_true]
      exact Ev.bind (spec_series hp pf.inR pg.inR (by omega) (by omega) (by omega) (by omega)) (Ev.now _)
    · simp only [impl_SeriesOf.f]
      refine Ev.bind h2 ?_
      simp (disch := omega) only [if_true, if_neg, if_pos, if_neg hr]
      exact Ev.bind (impl_series hp pf.inR pg.inR (by omega) (by omega) (by omega) (by omega)) (Ev.now _)

theorem FnExactSeriesOf : laws_FnExactSeriesOf.Pure := by
  intro p f g n _ _ _ _ _ _ _ _
  by_cases hl0 : (f.length : Int) > 1048576
  · exact ⟨0, by simp only [laws_FnExactSeriesOf.f, if_pos hl0]⟩
  by_cases hl1 : (g.length : Int) > 1048576
  · exact ⟨0, by simp only [laws_FnExactSeriesOf.f, if_neg hl0, if_pos hl1]⟩
  obtain ⟨r, e, hr, f1, f2⟩ := same p f g n (by omega) (by omega)
  have f3 : Ev (fun k => laws_toInt64S.f k f) f := toI_same f (by omega)
  have f4 : Ev (fun k => laws_eqInt64S.f k f f) true := eqI_same f (by omega)
  have f5 : Ev (fun k => laws_toInt64S.f k g) g := toI_same g (by omega)
  have f6 : Ev (fun k => laws_eqInt64S.f k g g) true := eqI_same g (by omega)
  have f7 : Ev (fun k => laws_markInt64S.f k f (1)) (1 + f.length, up (1) f.length) := mark_up f (by omega) (1) (by omega) (by omega)
  have f8 : Ev (fun k => laws_markInt64S.f k g (1 + f.length)) (1 + f.length + g.length, up (1 + f.length) g.length) := mark_up g (by omega) (1 + f.length) (by omega) (by omega)
  have n1 : ¬ ((1 + f.length + g.length : Int) < 0) := by omega
  have f9 : Ev (fun k => laws_eqInt64S.f k r r) true := eqI_same r (by omega)
  have f10 : Ev (fun k => laws_markInt64S.f k r (1)) (1 + r.length, up (1) r.length) := mark_up r (by omega) (1) (by omega) (by omega)
  have f11 : Ev (fun k => laws_heldInt64S.f k (up (1) r.length) (1)) (1 + r.length) := held_up r.length (by omega) (1) (by omega) (by omega)
  have m0 : ¬ ((1 + r.length : Int) < 0) := by omega
  refine Ev.rounds ?_
  simp only [laws_FnExactSeriesOf.f, if_neg hl0, if_neg hl1]
  repeat (first | exact Ev.now _ | (refine Ev.bind (by assumption) ?_; try simp only [Option.bind_some, bne_self_eq_false, Bool.false_eq_true, Bool.not_true, Bool.not_false, Bool.or_false, Bool.or_self, eq_self, if_true, if_false, ite_self, if_neg n1, if_neg m0]) | (refine Ev.succ ?_; simp only [laws_FnExactSeriesOf.j0, laws_FnExactSeriesOf.j1, laws_FnExactSeriesOf.j2]; try simp only [Option.bind_some, bne_self_eq_false, Bool.false_eq_true, Bool.not_true, Bool.not_false, Bool.or_false, Bool.or_self, eq_self, if_true, if_false, ite_self, if_neg n1, if_neg m0]))
end Go.Proofs.Ytcalaanklbejmaa.Pure

