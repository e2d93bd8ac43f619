/- FnExactPowerPoly: the program's PowerPoly answers as the reference's at all arguments. No condition. -/
import Derived.Test.YtfbehafhiialcaaVFnExactPowerPoly
import Derived.Test.YtfbehafhiialcaaMd1
import Derived.Test.YtfbehafhiialcaaMabcd2
import Derived.Test.YtfbehafhiialcaaMd3
import Derived.Test.YtfbehafhiialcaaMabcd3
import Derived.Test.YtfbehafhiialcaaMd2
import Derived.Test.YtfbehafhiialcaaRows
import Derived.Test.YtfbehafhiialcaaWSized
set_option linter.unusedVariables false
set_option linter.unusedSimpArgs false
namespace Go.Proofs.Ytfbehafhiialcaa.Pure
open Go.RowKit Go.Proofs.Ytfbehafhiialcaa.H Go.Proofs.YtfbehafhiialcaaW.PrintWords Go.Proofs.YtfbehafhiialcaaW.PrintLast Go.Proofs.YtfbehafhiialcaaW.PrintMore Go.Proofs.Ytfbehafhiialcaa.Num

theorem spec_loop {p : Int} {f : List Int} (hp : IsP p) (hf : f.length ≤ 25) (hr : InR p f) (N : Nat) (hN : N ≤ 24) : ∀ d e, e + d = N → Ev (fun k => spec_PowerPoly.l0 k p f (d : Int) (powP p f e)) (powP p f N, 0) := by
  intro d
  induction d with
  | zero => intro e h; refine Ev.succ ?_; simp (disch := omega) only [spec_PowerPoly.l0, if_neg]; rw [show e = N by omega]; exact Ev.now _
  | succ d ih =>
    intro e h
    have hi := ih (e + 1) (by omega)
    have hl := powP_len p f hf e
    refine Ev.succ ?_
    simp (disch := omega) only [spec_PowerPoly.l0, if_pos]
    refine Ev.bind (spec_product hp.p2 hp.pm (by omega) (by omega) (powP_inR hp.p2 f e) hr) ?_
    rw [show wrap64 (((d + 1 : Nat) : Int) - 1) = (d : Int) by rw [w64 (by omega) (by omega)]; omega]
    exact hi
theorem impl_loop {p : Int} {f : List Int} (hp : IsP p) (hf : f.length ≤ 25) (hr : InR p f) (N : Nat) (hN : N ≤ 24) : ∀ d e, e + d = N → Ev (fun k => impl_PowerPoly.l0 k p f (powP p f e) (N : Int) (e : Int)) (powP p f N, 0) := by
  intro d
  induction d with
  | zero => intro e h; refine Ev.succ ?_; simp (disch := omega) only [impl_PowerPoly.l0, if_neg]; rw [show e = N by omega]; exact Ev.now _
  | succ d ih =>
    intro e h
    have hi := ih (e + 1) (by omega)
    have hl := powP_len p f hf e
    refine Ev.succ ?_
    simp (disch := omega) only [impl_PowerPoly.l0, if_pos, wp1]
    exact Ev.bind (impl_product hp.p2 hp.pm (by omega) (by omega) (powP_inR hp.p2 f e) hr) hi
theorem same (p : Int) (f : List Int) (c : Int) (hf : f.length ≤ 1048576) : ∃ (r : List Int) (e : Int), r.length ≤ 1000 ∧ Ev (fun k => spec_PowerPoly.f k p f c) (r, e) ∧ Ev (fun k => impl_PowerPoly.f k p f c) (r, e) := by
  have h1 := spec_code p [f] (by simp) (by simp; omega)
  have h2 := impl_code1 p (withinB c 0 24) f
  have hin := in_within c 0 24
  rcases code_cases p (withinB c 0 24) [f] with ⟨hc, hb⟩ | ⟨hc, hx, hb, hp⟩ | ⟨hc, hx, hb, hp, hq⟩
  · rw [hb] at h2
    refine ⟨[], codeL p true [f], by simp, ?_, ?_⟩
    · simp only [spec_PowerPoly.f]
      refine Ev.bind h1 ?_
      simp only [if_neg hc]
      repeat (first | exact Ev.now _ | (refine Ev.bind (by assumption) ?_; try simp only [Option.bind_some, bne_self_eq_false, Bool.false_eq_true, Bool.not_true, Bool.not_false, Bool.or_false, Bool.or_self, eq_self, if_true, if_false, ite_self, if_neg hc]) | (refine Ev.succ ?_; simp only [spec_PowerPoly.j0, spec_PowerPoly.j1, spec_PowerPoly.j2, spec_PowerPoly.j3]; try simp only [Option.bind_some, bne_self_eq_false, Bool.false_eq_true, Bool.not_true, Bool.not_false, Bool.or_false, Bool.or_self, eq_self, if_true, if_false, ite_self, if_neg hc]))
    · simp only [impl_PowerPoly.f]
      refine Ev.bind h2 ?_
      simp only [if_neg hc]
      exact Ev.now _
  · rw [hx] at hin
    rw [hc] at h1
    rw [hb] at h2
    refine ⟨[], 2, by simp, ?_, ?_⟩
    · simp only [spec_PowerPoly.f]
      refine Ev.bind h1 ?_
      simp only [eq_self, if_true, hin, Option.bind_some, Bool.not_false]
      repeat (first | exact Ev.now _ | (refine Ev.bind (by assumption) ?_; try simp only [Option.bind_some, bne_self_eq_false, Bool.false_eq_true, Bool.not_true, Bool.not_false, Bool.or_false, Bool.or_self, eq_self, if_true, if_false, ite_self, show ¬ ((2 : Int) = 0) by omega]) | (refine Ev.succ ?_; simp only [spec_PowerPoly.j0, spec_PowerPoly.j1, spec_PowerPoly.j2, spec_PowerPoly.j3]; try simp only [Option.bind_some, bne_self_eq_false, Bool.false_eq_true, Bool.not_true, Bool.not_false, Bool.or_false, Bool.or_self, eq_self, if_true, if_false, ite_self, show ¬ ((2 : Int) = 0) by omega]))
    · simp only [impl_PowerPoly.f]
      refine Ev.bind h2 ?_
      simp only [show ¬ ((2 : Int) = 0) by omega, if_false]
      exact Ev.now _
  · rw [hx] at hin
    rw [hc] at h1
    rw [hb] at h2
    have pf := hq f (by simp)
    have lf := pf.len
    have hc' : 0 ≤ c ∧ c ≤ 24 := by unfold withinB at hx; simpa using hx
    obtain ⟨n, rfl⟩ : ∃ n : Nat, c = n := ⟨c.toNat, by omega⟩
    have hbd := mul_bd (a := 24) (b := 24) (x := mx ((f.length : Int) - 1) 0) (y := n) (by unfold mx; split <;> omega) (by unfold mx; split <;> omega) (by omega) (by omega)
    by_cases hd : (f.length : Int) - 1 > 0 ∧ ((f.length : Int) - 1) * (n : Int) > 24
    · obtain ⟨hd1, hd2⟩ := hd
      have hm : mx ((f.length : Int) - 1) 0 = (f.length : Int) - 1 := by unfold mx; rw [if_neg (by omega)]
      rw [hm] at hbd
      refine ⟨[], 3, by simp, ?_, ?_⟩
      · simp only [spec_PowerPoly.f]
        refine Ev.bind h1 ?_
        simp only [eq_self, if_true, hin, Option.bind_some, Bool.not_true]
        refine Ev.succ ?_
        simp only [spec_PowerPoly.j0, Bool.false_eq_true, if_false]
        refine Ev.succ ?_
        simp only [spec_PowerPoly.j1, eq_self, if_true, wm1 (show f.length ≤ 1000000000000 by omega), hm]
        rw [w64 (by omega) (by omega), decide_eq_true hd2]
        repeat (first | exact Ev.now _ | (refine Ev.bind (by assumption) ?_; try simp only [Option.bind_some, bne_self_eq_false, Bool.false_eq_true, Bool.not_true, Bool.not_false, Bool.or_false, Bool.or_self, eq_self, if_true, if_false, ite_self, show ¬ ((3 : Int) = 0) by omega]) | (refine Ev.succ ?_; simp only [spec_PowerPoly.j0, spec_PowerPoly.j1, spec_PowerPoly.j2, spec_PowerPoly.j3]; try simp only [Option.bind_some, bne_self_eq_false, Bool.false_eq_true, Bool.not_true, Bool.not_false, Bool.or_false, Bool.or_self, eq_self, if_true, if_false, ite_self, show ¬ ((3 : Int) = 0) by omega]))
      · simp only [impl_PowerPoly.f]
        refine Ev.bind h2 ?_
        simp (disch := omega) only [eq_self, if_true, impl_deg, Option.bind_some, if_pos hd1, w64]
        refine Ev.succ ?_
        simp only [impl_PowerPoly.j0, decide_eq_true hd2, if_true]
        exact Ev.now _
    · refine ⟨powP p f n, 0, by have := powP_len p f lf n; omega, ?_, ?_⟩
      · have hz : ¬ (wrap64 (mx ((f.length : Int) - 1) 0 * (n : Int)) > 24) := by
          rw [w64 (by omega) (by omega)]
          by_cases a1 : (f.length : Int) - 1 > 0
          · have hm : mx ((f.length : Int) - 1) 0 = (f.length : Int) - 1 := by unfold mx; rw [if_neg (by omega)]
            rw [hm]; exact fun hh => hd ⟨a1, hh⟩
          · have hm : mx ((f.length : Int) - 1) 0 = 0 := by unfold mx; split <;> omega
            rw [hm, Int.zero_mul]; omega
        simp only [spec_PowerPoly.f]
        refine Ev.bind h1 ?_
        simp only [eq_self, if_true, hin, Option.bind_some, Bool.not_true]
        refine Ev.succ ?_
        simp only [spec_PowerPoly.j0, Bool.false_eq_true, if_false]
        refine Ev.succ ?_
        simp only [spec_PowerPoly.j1, eq_self, if_true, wm1 (show f.length ≤ 1000000000000 by omega), decide_eq_false hz]
        refine Ev.succ ?_
        simp only [spec_PowerPoly.j2, Bool.false_eq_true, if_false]
        refine Ev.succ ?_
        simp only [spec_PowerPoly.j3, eq_self, if_true]
        exact spec_loop hp lf pf.inR n (by omega) n 0 (by omega)
      · have hi := impl_loop hp lf pf.inR n (by omega) n 0 (by omega)
        simp only [impl_PowerPoly.f]
        refine Ev.bind h2 ?_
        simp (disch := omega) only [eq_self, if_true, impl_deg, Option.bind_some]
        by_cases a1 : (f.length : Int) - 1 > 0
        · have hm : mx ((f.length : Int) - 1) 0 = (f.length : Int) - 1 := by unfold mx; rw [if_neg (by omega)]
          rw [hm] at hbd
          have hz : ¬ (((f.length : Int) - 1) * (n : Int) > 24) := fun hh => hd ⟨a1, hh⟩
          simp only [if_pos a1]
          rw [w64 (by omega) (by omega), decide_eq_false hz]
          refine Ev.succ ?_
          simp only [impl_PowerPoly.j0, Bool.false_eq_true, if_false]
          exact hi
        · simp only [if_neg a1]
          refine Ev.succ ?_
          simp only [impl_PowerPoly.j0, Bool.false_eq_true, if_false]
          exact hi

theorem FnExactPowerPoly : laws_FnExactPowerPoly.Pure := by
  intro p f c _ _ _ _ _
  by_cases hl0 : (f.length : Int) > 1048576
  · exact ⟨0, by simp only [laws_FnExactPowerPoly.f, if_pos hl0]⟩
  obtain ⟨r, e, hr, f1, f2⟩ := same p f c (by omega)
  have f3 : Ev (fun k => laws_toInt64S.f k f) f := toI_same f (by omega)
  have f4 : Ev (fun k => laws_eqInt64S.f k f f) true := eqI_same f (by omega)
  have f5 : Ev (fun k => laws_markInt64S.f k f (1)) (1 + f.length, up (1) f.length) := mark_up f (by omega) (1) (by omega) (by omega)
  have n1 : ¬ ((1 + f.length : Int) < 0) := by omega
  have f6 : Ev (fun k => laws_eqInt64S.f k r r) true := eqI_same r (by omega)
  have f7 : Ev (fun k => laws_markInt64S.f k r (1)) (1 + r.length, up (1) r.length) := mark_up r (by omega) (1) (by omega) (by omega)
  have f8 : Ev (fun k => laws_heldInt64S.f k (up (1) r.length) (1)) (1 + r.length) := held_up r.length (by omega) (1) (by omega) (by omega)
  have m0 : ¬ ((1 + r.length : Int) < 0) := by omega
  refine Ev.rounds ?_
  simp only [laws_FnExactPowerPoly.f, if_neg hl0]
  repeat (first | exact Ev.now _ | (refine Ev.bind (by assumption) ?_; try simp only [Option.bind_some, bne_self_eq_false, Bool.false_eq_true, Bool.not_true, Bool.not_false, Bool.or_false, Bool.or_self, eq_self, if_true, if_false, ite_self, if_neg n1, if_neg m0]) | (refine Ev.succ ?_; simp only [laws_FnExactPowerPoly.j0, laws_FnExactPowerPoly.j1, laws_FnExactPowerPoly.j2]; try simp only [Option.bind_some, bne_self_eq_false, Bool.false_eq_true, Bool.not_true, Bool.not_false, Bool.or_false, Bool.or_self, eq_self, if_true, if_false, ite_self, if_neg n1, if_neg m0]))
end Go.Proofs.Ytfbehafhiialcaa.Pure

