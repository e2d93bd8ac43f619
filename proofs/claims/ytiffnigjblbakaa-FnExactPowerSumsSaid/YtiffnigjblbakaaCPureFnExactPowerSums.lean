/- FnExactPowerSums: the program's PowerSums answers as the reference's at all arguments. No condition. -/
import Derived.Test.YtiffnigjblbakaaVFnExactPowerSums
import Derived.Test.YtiffnigjblbakaaMa4
import Derived.Test.YtiffnigjblbakaaMa1
import Derived.Test.YtiffnigjblbakaaMa8
import Derived.Test.YtiffnigjblbakaaMa5
import Derived.Test.YtiffnigjblbakaaMa7
import Derived.Test.YtiffnigjblbakaaRows
import Derived.Test.YtiffnigjblbakaaYWSized
set_option linter.unusedVariables false
set_option linter.unusedSimpArgs false
namespace Go.Proofs.Ytiffnigjblbakaa.Pure
open Go.RowKit Go.Proofs.Ytiffnigjblbakaa.H Go.Proofs.YtiffnigjblbakaaW.PrintWords Go.Proofs.YtiffnigjblbakaaW.PrintLast Go.Proofs.YtiffnigjblbakaaW.PrintMore Go.Proofs.Ytiffnigjblbakaa.Num

theorem same (p : Int) (f : List Int) (c : Int) (hf : f.length ≤ 1048576) : ∃ (r : List Int) (e : Int), r.length ≤ 1000 ∧ Ev (fun k => spec_PowerSums.f k p f c) (r, e) ∧ Ev (fun k => impl_PowerSums.f k p f c) (r, e) := by
  have h1 := spec_code p [f] (by simp) (by simp; omega)
  have h2 := impl_fill1 p (withinB c 0 24) f
  have h3 := spec_code6 p [f] (by simp) (by simp; omega)
  rcases code_cases p (withinB c 0 24) [f] with ⟨hc, hb⟩ | ⟨hc, hx, hb, hp⟩ | ⟨hc, hx, hb, hp, hq⟩
  · rw [hb] at h2
    have e : fillL (codeL p true [f]) [f] = codeL p true [f] := by unfold fillL; rw [if_neg hc]
    rw [e] at h2
    refine ⟨[], codeL p true [f], by simp, ?_, ?_⟩
    · simp only [spec_PowerSums.f]
      refine Ev.bind h1 ?_
      simp only [if_neg hc]
      repeat (first | exact Ev.now _ | (refine Ev.bind (by assumption) ?_; try simp only [Option.bind_some, bne_self_eq_false, Bool.false_eq_true, Bool.not_true, Bool.not_false, Bool.or_false, Bool.or_self, eq_self, if_true, if_false, ite_self, if_neg hc]) | (refine Ev.succ ?_; simp only [spec_PowerSums.j0, spec_PowerSums.j1, spec_PowerSums.j2]; try simp only [Option.bind_some, bne_self_eq_false, Bool.false_eq_true, Bool.not_true, Bool.not_false, Bool.or_false, Bool.or_self, eq_self, if_true, if_false, ite_self, if_neg hc]))
    · simp only [impl_PowerSums.f]
      refine Ev.bind h2 ?_
      simp only [if_neg hc]
      exact Ev.now _
  · have hin := in_within c 0 24
    rw [hx] at hin
    rw [hc] at h1
    rw [hb] at h2
    have e : fillL 2 [f] = 2 := by simp [fillL]
    rw [e] at h2
    refine ⟨[], 2, by simp, ?_, ?_⟩
    · simp only [spec_PowerSums.f]
      refine Ev.bind h1 ?_
      simp only [eq_self, if_true, hin, Option.bind_some, Bool.not_false]
      repeat (first | exact Ev.now _ | (refine Ev.bind (by assumption) ?_; try simp only [Option.bind_some, bne_self_eq_false, Bool.false_eq_true, Bool.not_true, Bool.not_false, Bool.or_false, Bool.or_self, eq_self, if_true, if_false, ite_self, show ¬ ((2 : Int) = 0) by omega]) | (refine Ev.succ ?_; simp only [spec_PowerSums.j0, spec_PowerSums.j1, spec_PowerSums.j2]; try simp only [Option.bind_some, bne_self_eq_false, Bool.false_eq_true, Bool.not_true, Bool.not_false, Bool.or_false, Bool.or_self, eq_self, if_true, if_false, ite_self, show ¬ ((2 : Int) = 0) by omega]))
    · simp only [impl_PowerSums.f]
      refine Ev.bind h2 ?_
      simp only [show ¬ ((2 : Int) = 0) by omega, if_false]
      exact Ev.now _
  · have hin := in_within c 0 24
    rw [hx] at hin
    rw [hc] at h1 h3
    rw [hb] at h2
    have pf := hq f (by simp)
    by_cases h0 : 0 < f.length
    · have e : fillL 0 [f] = 0 := by simp [fillL, h0]
      rw [e] at h2 h3
      have hc' : 0 ≤ c ∧ c ≤ 24 := by unfold withinB at hx; simpa using hx
      obtain ⟨N, rfl⟩ : ∃ N : Nat, c = N := ⟨c.toNat, by omega⟩
      have lf := pf.len
      have hp2 := hp.p2
      obtain ⟨d, hd⟩ : ∃ d, f.length = d + 1 := ⟨f.length - 1, by omega⟩
      have hs := spec_ps hp pf hd (N := N) (by omega) N 0 (by omega)
      simp only [psL, hd, Nat.add_sub_cancel] at hs
      refine ⟨psL p f N, 0, by rw [psL_len]; omega, ?_, ?_⟩
      · simp only [spec_PowerSums.f]
        refine Ev.bind h1 ?_
        simp only [eq_self, if_true, hin, Option.bind_some, Bool.not_true]
        refine Ev.succ ?_
        simp only [spec_PowerSums.j0, Bool.false_eq_true, if_false]
        refine Ev.succ ?_
        simp only [spec_PowerSums.j1, eq_self, if_true]
        refine Ev.bind h3 ?_
        refine Ev.succ ?_
        have q0 : ¬ p = 0 := by omega
        have q1 : wrap64 ((f.length : Int) - 1) = (d : Int) := by rw [w64 (by omega) (by omega)]; omega
        have q2 : (0 : Int) ≤ (d : Int) := by omega
        have q3 : (d : Int) < (f.length : Int) := by omega
        simp only [spec_PowerSums.j2, eq_self, if_true, if_neg q0, q1, if_pos q2, if_pos q3, rd_n, tmod_nn q2]
        exact Ev.bind (spec_inverse hp.p2 hp.pm) hs
      · simp only [impl_PowerSums.f]
        refine Ev.bind h2 ?_
        simp only [eq_self, if_true]
        exact Ev.bind (impl_powersums hp pf h0 (by omega)) (Ev.now _)
    · have e : fillL 0 [f] = 5 := by simp [fillL, h0]
      rw [e] at h2 h3
      refine ⟨[], 5, by simp, ?_, ?_⟩
      · simp only [spec_PowerSums.f]
        refine Ev.bind h1 ?_
        simp only [eq_self, if_true, hin, Option.bind_some, Bool.not_true]
        refine Ev.succ ?_
        simp only [spec_PowerSums.j0, Bool.false_eq_true, if_false]
        refine Ev.succ ?_
        simp only [spec_PowerSums.j1, eq_self, if_true]
        refine Ev.bind h3 ?_
        refine Ev.succ ?_
        simp only [spec_PowerSums.j2, show ¬ ((5 : Int) = 0) by omega, if_false]
        exact Ev.now _
      · simp only [impl_PowerSums.f]
        refine Ev.bind h2 ?_
        simp only [show ¬ ((5 : Int) = 0) by omega, if_false]
        exact Ev.now _

theorem FnExactPowerSums : laws_FnExactPowerSums.Pure := by
  intro p f c _ _ _ _ _
  by_cases hl0 : (f.length : Int) > 1048576
  · exact ⟨0, by simp only [laws_FnExactPowerSums.f, if_pos hl0]⟩
  obtain ⟨r, e, hr, f1, f2⟩ := same p f c (by omega)
  have f3 : Ev (fun k => laws_toInt64S.f k f) f := toI_same f (by omega)
  have f4 : Ev (fun k => laws_eqInt64S.f k f f) true := eqI_same f (by omega)
  have f5 : Ev (fun k => laws_markInt64S.f k f (1)) (1 + f.length, up (1) f.length) := mark_up f (by omega) (1) (by omega) (by omega)
  have n1 : ¬ ((1 + f.length : Int) < 0) := by omega
  have f6 : Ev (fun k => laws_eqInt64S.f k r r) true := eqI_same r (by omega)
  have f7 : Ev (fun k => laws_markInt64S.f k r (1)) (1 + r.length, up (1) r.length) := mark_up r (by omega) (1) (by omega) (by omega)
  have f8 : Ev (fun k => laws_heldInt64S.f k (up (1) r.length) (1)) (1 + r.length) := held_up r.length (by omega) (1) (by omega) (by omega)
  have m0 : ¬ ((1 + r.length : Int) < 0) := by omega
  refine Ev.rounds ?_
  simp only [laws_FnExactPowerSums.f, if_neg hl0]
  repeat (first | exact Ev.now _ | (refine Ev.bind (by assumption) ?_; try simp only [Option.bind_some, bne_self_eq_false, Bool.false_eq_true, Bool.not_true, Bool.not_false, Bool.or_false, Bool.or_self, eq_self, if_true, if_false, ite_self, if_neg n1, if_neg m0]) | (refine Ev.succ ?_; simp only [laws_FnExactPowerSums.j0, laws_FnExactPowerSums.j1, laws_FnExactPowerSums.j2]; try simp only [Option.bind_some, bne_self_eq_false, Bool.false_eq_true, Bool.not_true, Bool.not_false, Bool.or_false, Bool.or_self, eq_self, if_true, if_false, ite_self, if_neg n1, if_neg m0]))
end Go.Proofs.Ytiffnigjblbakaa.Pure

