/- FnExactInterpolatePoly: the program's InterpolatePoly answers as the reference's at all arguments. No condition. -/
import Derived.Test.YtnigpjcnffgfgaaVFnExactInterpolatePoly
import Derived.Test.YtnigpjcnffgfgaaMa3
import Derived.Test.YtnigpjcnffgfgaaMab1
import Derived.Test.YtnigpjcnffgfgaaMab2
import Derived.Test.YtnigpjcnffgfgaaMa10
import Derived.Test.YtnigpjcnffgfgaaMab3
import Derived.Test.YtnigpjcnffgfgaaMa9
import Derived.Test.YtnigpjcnffgfgaaMa8
import Derived.Test.YtnigpjcnffgfgaaRows
import Derived.Test.YtnigpjcnffgfgaaYWSized
set_option linter.unusedVariables false
set_option linter.unusedSimpArgs false
namespace Go.Proofs.Ytnigpjcnffgfgaa.Pure
open Go.RowKit Go.Proofs.Ytnigpjcnffgfgaa.H Go.Proofs.YtnigpjcnffgfgaaW.PrintWords Go.Proofs.YtnigpjcnffgfgaaW.PrintLast Go.Proofs.YtnigpjcnffgfgaaW.PrintMore Go.Proofs.Ytnigpjcnffgfgaa.Num

theorem same (p : Int) (xs ys : List Int) (hx : xs.length ≤ 1048576) (hy : ys.length ≤ 1048576) : ∃ (r : List Int) (e : Int), r.length ≤ 1000 ∧ Ev (fun k => spec_InterpolatePoly.f k p xs ys) (r, e) ∧ Ev (fun k => impl_InterpolatePoly.f k p xs ys) (r, e) := by
  have h1 := spec_prime p
  have h2 := impl_nodes p xs ys 25 (by omega)
  cases hn : ndB p xs ys 25 with
  | true =>
    rw [hn] at h2
    obtain ⟨hp, c1, c2, rx, ry⟩ := ndB_iff hn
    have h3 := spec_points2 hp xs (by omega)
    have h4 := spec_points hp ys (by omega)
    have hs := spec_interp hp rx ry c2 (by omega) xs.length 0 [] [1] (by omega) (by simp) (by simp) InR.nil (InR.one (by have := hp.p2; omega))
    have hi := impl_interp hp rx ry c2 (by omega) xs.length 0 [] [1] (by omega) (by simp) (by simp) InR.nil (InR.one (by have := hp.p2; omega))
    have hl := intF_len p xs ys xs.length 0 [] [1] (by simp) (by simp)
    simp only [ndB, Bool.and_eq_true] at hn
    rw [hn.1] at h1
    rw [hn.2.2.2.1, hn.2.2.2.2.2] at h3
    rw [hn.2.2.2.2.1] at h4
    refine ⟨intF p xs ys xs.length 0 [] [1], 0, by omega, ?_, ?_⟩
    · simp only [spec_InterpolatePoly.f]
      refine Ev.bind h1 ?_
      simp only [if_true, if_neg (show ¬ (xs.length : Int) > 25 by omega), if_pos (show (ys.length : Int) = xs.length by omega)]
      refine Ev.bind h3 ?_
      simp only [Bool.and_self, if_true]
      refine Ev.bind h4 ?_
      simp only [if_true]
      have hA : Ev (fun k => spec_l01Interpolate.f k p xs ys) (intF p xs ys xs.length 0 [] [1]) := by simp only [spec_l01Interpolate.f]; exact hs
      exact Ev.bind hA (Ev.now _)
    · simp only [impl_InterpolatePoly.f]
      refine Ev.bind h2 ?_
      simp only [if_true]
      have hA : Ev (fun k => impl_field_interpolate.f k p xs ys) (intF p xs ys xs.length 0 [] [1]) := by simp only [impl_field_interpolate.f]; exact hi
      exact Ev.bind hA (Ev.now _)
  | false =>
    rw [hn] at h2
    refine ⟨[], 2, by simp, ?_, ?_⟩
    · simp only [spec_InterpolatePoly.f]
      refine Ev.bind h1 ?_
      cases hp : primeB p with
      | false => simp only [Bool.false_eq_true, if_false]; exact Ev.now _
      | true =>
        simp only [if_true]
        by_cases c1 : (xs.length : Int) > 25
        · simp only [if_pos c1]; exact Ev.now _
        · simp only [if_neg c1]
          by_cases c2 : ys.length = xs.length
          · simp only [if_pos (show (ys.length : Int) = xs.length by omega)]
            refine Ev.bind (spec_points2 (primeB_iff.1 hp) xs (by omega)) ?_
            cases ha : (xs.all (hasB p) && diffB xs) with
            | false => simp only [Bool.false_eq_true, if_false]; exact Ev.now _
            | true =>
              simp only [if_true]
              refine Ev.bind (spec_points (primeB_iff.1 hp) ys (by omega)) ?_
              have : ys.all (hasB p) = false := by
                cases hb : ys.all (hasB p) with
                | false => rfl
                | true =>
                  rw [Bool.and_eq_true] at ha
                  simp only [ndB, hp, ha.1, ha.2, hb, decide_eq_true c2, decide_eq_true (show (xs.length : Int) ≤ 25 by omega), Bool.and_self] at hn
                  exact absurd hn (by simp)
              simp only [this, Bool.false_eq_true, if_false]; exact Ev.now _
          · simp only [if_neg (show ¬ (ys.length : Int) = xs.length by omega)]; exact Ev.now _
    · simp only [impl_InterpolatePoly.f]
      refine Ev.bind h2 ?_
      simp only [Bool.false_eq_true, if_false]; exact Ev.now _

theorem FnExactInterpolatePoly : laws_FnExactInterpolatePoly.Pure := by
  intro p f g _ _ _ _ _ _ _
  by_cases hl0 : (f.length : Int) > 1048576
  · exact ⟨0, by simp only [laws_FnExactInterpolatePoly.f, if_pos hl0]⟩
  by_cases hl1 : (g.length : Int) > 1048576
  · exact ⟨0, by simp only [laws_FnExactInterpolatePoly.f, if_neg hl0, if_pos hl1]⟩
  obtain ⟨r, e, hr, f1, f2⟩ := same p f g (by omega) (by omega)
  have f3 : Ev (fun k => laws_toInt64S.f k f) f := toI_same f (by omega)
  have f4 : Ev (fun k => laws_eqInt64S.f k f f) true := eqI_same f (by omega)
  have f5 : Ev (fun k => laws_toInt64S.f k g) g := toI_same g (by omega)
  have f6 : Ev (fun k => laws_eqInt64S.f k g g) true := eqI_same g (by omega)
  have f7 : Ev (fun k => laws_markInt64S.f k f (1)) (1 + f.length, up (1) f.length) := mark_up f (by omega) (1) (by omega) (by omega)
  have f8 : Ev (fun k => laws_markInt64S.f k g (1 + f.length)) (1 + f.length + g.length, up (1 + f.length) g.length) := mark_up g (by omega) (1 + f.length) (by omega) (by omega)
  have n1 : ¬ ((1 + f.length + g.length : Int) < 0) := by omega
  have f9 : Ev (fun k => laws_eqInt64S.f k r r) true := eqI_same r (by omega)
  have f10 : Ev (fun k => laws_markInt64S.f k r (1)) (1 + r.length, up (1) r.length) := mark_up r (by omega) (1) (by omega) (by omega)
  have f11 : Ev (fun k => laws_heldInt64S.f k (up (1) r.length) (1)) (1 + r.length) := held_up r.length (by omega) (1) (by omega) (by omega)
  have m0 : ¬ ((1 + r.length : Int) < 0) := by omega
  refine Ev.rounds ?_
  simp only [laws_FnExactInterpolatePoly.f, if_neg hl0, if_neg hl1]
  repeat (first | exact Ev.now _ | (refine Ev.bind (by assumption) ?_; try simp only [Option.bind_some, bne_self_eq_false, Bool.false_eq_true, Bool.not_true, Bool.not_false, Bool.or_false, Bool.or_self, eq_self, if_true, if_false, ite_self, if_neg n1, if_neg m0]) | (refine Ev.succ ?_; simp only [laws_FnExactInterpolatePoly.j0, laws_FnExactInterpolatePoly.j1, laws_FnExactInterpolatePoly.j2]; try simp only [Option.bind_some, bne_self_eq_false, Bool.false_eq_true, Bool.not_true, Bool.not_false, Bool.or_false, Bool.or_self, eq_self, if_true, if_false, ite_self, if_neg n1, if_neg m0]))
end Go.Proofs.Ytnigpjcnffgfgaa.Pure

