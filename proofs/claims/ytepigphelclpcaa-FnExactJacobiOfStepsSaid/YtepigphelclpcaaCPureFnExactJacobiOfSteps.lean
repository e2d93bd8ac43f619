/- FnExactJacobiOfSteps: the program's JacobiOfSteps answers as the reference's at all arguments. No condition. -/
import Derived.Test.YtepigphelclpcaaVFnExactJacobiOfSteps
import Derived.Test.YtepigphelclpcaaMc2
import Derived.Test.YtepigphelclpcaaMabc1
import Derived.Test.YtepigphelclpcaaMc5
import Derived.Test.YtepigphelclpcaaMc3
import Derived.Test.YtepigphelclpcaaMc4
import Derived.Test.YtepigphelclpcaaRows
import Derived.Test.YtepigphelclpcaaWSized
set_option linter.unusedVariables false
set_option linter.unusedSimpArgs false
namespace Go.Proofs.Ytepigphelclpcaa.Pure
open Go.RowKit Go.Proofs.Ytepigphelclpcaa.H Go.Proofs.YtepigphelclpcaaW.PrintWords Go.Proofs.YtepigphelclpcaaW.PrintLast Go.Proofs.YtepigphelclpcaaW.PrintMore Go.Proofs.Ytepigphelclpcaa.Num

theorem within_iff {x a b : Int} : withinB x a b = true ↔ a ≤ x ∧ x ≤ b := by unfold withinB; rw [Bool.and_eq_true, decide_eq_true_eq, decide_eq_true_eq]
theorem arNum_iff {p a b : Int} {l : List Int} (h : arNum p l a b = true) : IsP p ∧ a ≤ l.length ∧ l.length ≤ b ∧ InR p l := by
  simp only [arNum, Bool.and_eq_true] at h
  have hw := within_iff.1 h.2.1
  exact ⟨primeB_iff.1 h.1, hw.1, hw.2, fun x hx => hasB_iff.1 (List.all_eq_true.1 h.2.2 x hx)⟩
theorem same (p : Int) (l : List Int) (hl : l.length ≤ 1048576) : ∃ (q : Int) (A B : List Int) (e : Int), A.length ≤ 1000 ∧ B.length ≤ 1000 ∧ Ev (fun k => spec_JacobiOfSteps.f k p l) (q, A, B, e) ∧ Ev (fun k => impl_JacobiOfSteps.f k p l) (q, A, B, e) := by
  have h1 := spec_prime p
  have h2 := impl_numbers p l 2 24
  have hw : wrap64 ((l.length : Int) / 2) = (l.length : Int) / 2 := w64 (by omega) (by omega)
  have sN : Ev (fun k => spec_JacobiOfSteps.j0 k p l ((l.length : Int) / 2) true) (0, [], [], 2) := by refine Ev.succ ?_; simp only [spec_JacobiOfSteps.j0, if_true]; exact Ev.now _
  have iN : Ev (fun k => impl_JacobiOfSteps.j0 k p l true) (0, [], [], 2) := by refine Ev.succ ?_; simp only [impl_JacobiOfSteps.j0, if_true]; exact Ev.now _
  by_cases hall : arNum p l 2 24 = true ∧ (l.length : Int) % 2 = 0
  · obtain ⟨ha, hm⟩ := hall
    obtain ⟨hp, l2, l24, r⟩ := arNum_iff ha
    rw [ha] at h2
    rw [primeB_iff.2 hp] at h1
    obtain ⟨m, hs⟩ : ∃ m : Nat, l.length = 2 * (m + 1) := ⟨l.length / 2 - 1, by omega⟩
    have hal : l.all (hasB p) = true := List.all_eq_true.2 fun x hx => hasB_iff.2 (r x hx)
    have h3 := spec_points hp l (by omega)
    rw [hal] at h3
    have e1 : (l.length : Int) / 2 = ((m + 1 : Nat) : Int) := by omega
    have S : Ev (fun k => spec_JacobiOfSteps.f k p l) (jR p l m) := by
      simp only [spec_JacobiOfSteps.f]
      refine Ev.bind h1 ?_
      simp only [hw, if_true, if_pos hm]
      simp only [e1, if_neg (show ¬ (((m + 1 : Nat) : Int) < 1) by omega), if_neg (show ¬ (((m + 1 : Nat) : Int) > 12) by omega)]
      refine Ev.bind h3 ?_
      refine Ev.succ ?_
      simp (disch := omega) only [spec_JacobiOfSteps.j0, Bool.not_true, Bool.false_eq_true, if_false, if_pos]
      exact spec_steps hp r hs (by omega) m 0 (by omega)
    have I : Ev (fun k => impl_JacobiOfSteps.f k p l) (jR p l m) := by
      simp only [impl_JacobiOfSteps.f]
      refine Ev.bind h2 ?_
      simp only [if_true, hm, bne_self_eq_false]
      refine Ev.succ ?_
      simp (disch := omega) only [impl_JacobiOfSteps.j0, Bool.false_eq_true, if_false, if_pos]
      exact impl_steps hp r hs (by omega) m 0 (by omega)
    have la := jA_len p l m
    have lb := jB_len p l m
    unfold jR at S I
    cases hc : (jB p l m).any (fun y => decide (0 = y)) with
    | true => rw [hc] at S I; exact ⟨0, [], [], 5, by simp, by simp, S, I⟩
    | false => rw [hc] at S I; exact ⟨p, jA p l m, jB p l m, 0, by omega, by omega, S, I⟩
  · refine ⟨0, [], [], 2, by simp, by simp, ?_, ?_⟩
    · simp only [spec_JacobiOfSteps.f, hw]
      refine Ev.bind h1 ?_
      cases hpr : primeB p with
      | false => simp only [Bool.false_eq_true, if_false]; exact sN
      | true =>
        by_cases hm : (l.length : Int) % 2 = 0
        · simp only [if_true, if_pos hm]
          by_cases c1 : (l.length : Int) / 2 < 1
          · simp only [if_pos c1]; exact sN
          by_cases c2 : (l.length : Int) / 2 > 12
          · simp only [if_neg c1, if_pos c2]; exact sN
          simp only [if_neg c1, if_neg c2]
          refine Ev.bind (spec_points (primeB_iff.1 hpr) l (by omega)) ?_
          have : l.all (hasB p) = false := by
            cases h : l.all (hasB p) with
            | false => rfl
            | true =>
              refine absurd ⟨?_, hm⟩ hall
              simp only [arNum, Bool.and_eq_true]
              exact ⟨hpr, within_iff.2 ⟨by omega, by omega⟩, h⟩
          simp only [this, Bool.not_false]; exact sN
        · simp only [if_true, if_neg hm]; exact sN
    · simp only [impl_JacobiOfSteps.f]
      refine Ev.bind h2 ?_
      cases ha : arNum p l 2 24 with
      | false => simp only [Bool.false_eq_true, if_false]; exact iN
      | true =>
        have hm : ¬ (l.length : Int) % 2 = 0 := fun h => hall ⟨ha, h⟩
        have hb : (((l.length : Int) % 2) != 0) = true := by simpa using hm
        simp only [if_true, hb]; exact iN

theorem FnExactJacobiOfSteps : laws_FnExactJacobiOfSteps.Pure := by
  intro p l _ _ _ _
  by_cases hl0 : (l.length : Int) > 1048576
  · exact ⟨0, by simp only [laws_FnExactJacobiOfSteps.f, if_pos hl0]⟩
  obtain ⟨q, A, B, e, hA, hB, f1, f2⟩ := same p l (by omega)
  have f3 : Ev (fun k => laws_toInt64S.f k l) l := toI_same l (by omega)
  have f4 : Ev (fun k => laws_eqInt64S.f k l l) true := eqI_same l (by omega)
  have f5 : Ev (fun k => laws_markInt64S.f k l 1) (1 + l.length, up 1 l.length) := mark_up l (by omega) 1 (by omega) (by omega)
  have f6 := eqJ_same q A B (by omega) (by omega)
  have f7 := markJ_up q A B (by omega) (by omega) 1 (by omega) (by omega)
  have f8 := heldJ_up q A.length B.length (by omega) (by omega) 1 (by omega) (by omega)
  have n1 : ¬ ((1 + l.length : Int) < 0) := by omega
  have n2 : ¬ ((1 + A.length + B.length : Int) < 0) := by omega
  refine Ev.rounds ?_
  simp only [laws_FnExactJacobiOfSteps.f, if_neg hl0]
  repeat (first | exact Ev.now _ | (refine Ev.bind (by assumption) ?_; try simp only [Option.bind_some, bne_self_eq_false, Bool.false_eq_true, Bool.not_true, Bool.not_false, Bool.or_false, Bool.or_self, eq_self, if_true, if_false, ite_self, if_neg n1, if_neg n2]) | (refine Ev.succ ?_; simp only [laws_FnExactJacobiOfSteps.j0, laws_FnExactJacobiOfSteps.j1, laws_FnExactJacobiOfSteps.j2]; try simp only [Option.bind_some, bne_self_eq_false, Bool.false_eq_true, Bool.not_true, Bool.not_false, Bool.or_false, Bool.or_self, eq_self, if_true, if_false, ite_self, if_neg n1, if_neg n2]))
end Go.Proofs.Ytepigphelclpcaa.Pure

