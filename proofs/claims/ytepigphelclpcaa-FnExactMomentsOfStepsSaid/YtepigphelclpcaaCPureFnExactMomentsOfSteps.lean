/- FnExactMomentsOfSteps: the program's MomentsOfSteps answers as the reference's at all arguments. No condition. -/
import Derived.Test.YtepigphelclpcaaVFnExactMomentsOfSteps
import Derived.Test.YtepigphelclpcaaMb4
import Derived.Test.YtepigphelclpcaaMab1
import Derived.Test.YtepigphelclpcaaMb9
import Derived.Test.YtepigphelclpcaaMab2
import Derived.Test.YtepigphelclpcaaMb8
import Derived.Test.YtepigphelclpcaaMab3
import Derived.Test.YtepigphelclpcaaRows
import Derived.Test.YtepigphelclpcaaWSized
set_option linter.unusedVariables false
set_option linter.unusedSimpArgs false
namespace Go.Proofs.Ytepigphelclpcaa.Pure
open Go.RowKit Go.Proofs.Ytepigphelclpcaa.H Go.Proofs.YtepigphelclpcaaW.PrintWords Go.Proofs.YtepigphelclpcaaW.PrintLast Go.Proofs.YtepigphelclpcaaW.PrintMore Go.Proofs.Ytepigphelclpcaa.Num

theorem within_iff {x a b : Int} : withinB x a b = true ↔ a ≤ x ∧ x ≤ b := by unfold withinB; rw [Bool.and_eq_true, decide_eq_true_eq, decide_eq_true_eq]
theorem arNum_iff {p a b : Int} {l : List Int} (h : arNum p l a b = true) : IsP p ∧ a ≤ l.length ∧ l.length ≤ b ∧ InR p l := by
  simp only [arNum, Bool.and_eq_true] at h
  have hw := within_iff.1 h.2.1
  exact ⟨primeB_iff.1 h.1, hw.1, hw.2, fun x hx => hasB_iff.1 (List.all_eq_true.1 h.2.2 x hx)⟩
theorem same (p : Int) (l : List Int) (n : Int) (hl : l.length ≤ 1048576) : ∃ (q : Int) (A : List Int) (e : Int), A.length ≤ 1000 ∧ Ev (fun k => spec_MomentsOfSteps.f k p l n) (q, A, e) ∧ Ev (fun k => impl_MomentsOfSteps.f k p l n) (q, A, e) := by
  have h1 := spec_prime p
  have h2 := impl_numbers p l 1 24
  have sN_ : Ev (fun k => spec_MomentsOfSteps.j0 k p l n true) (0, [], 2) := by refine Ev.succ ?_; simp only [spec_MomentsOfSteps.j0, if_true]; exact Ev.now _
  have iN : Ev (fun k => impl_MomentsOfSteps.j0 k p l n true) (0, [], 2) := by refine Ev.succ ?_; simp only [impl_MomentsOfSteps.j0, if_true]; exact Ev.now _
  by_cases hall : arNum p l 1 24 = true ∧ (1 ≤ n ∧ n ≤ 24)
  · obtain ⟨ha, hn1, hn2⟩ := hall
    obtain ⟨hp, l1, l24, r⟩ := arNum_iff ha
    rw [ha] at h2
    rw [primeB_iff.2 hp] at h1
    obtain ⟨m, rfl⟩ : ∃ m : Nat, n = (m : Int) := ⟨n.toNat, by omega⟩
    have hal : l.all (hasB p) = true := List.all_eq_true.2 fun x hx => hasB_iff.2 (r x hx)
    have h3 := spec_points hp l (by omega)
    rw [hal] at h3
    have hS := spec_zeros (n := m) hp r (by omega) (by omega) (by omega) (by omega) (l.length - 1) 0 (by omega)
    have hI := impl_mos (n := m) hp r (by omega) (by omega) (by omega) (by omega) (l.length - 1) 0 (by omega)
    have hC := impl_contains (l.take (l.length - 1)) 0 (by rw [List.length_take]; omega)
    have hO : sN p l m l.length = scl p (l.getD 0 0) (oN p l m (l.length - 1)) := by
      have := sN_oN hp.p2 r m (by omega) (l.length - 1)
      rw [show l.length - 1 + 1 = l.length by omega, show l.length - 1 - (l.length - 1) = 0 by omega] at this
      exact this
    rw [List.drop_zero] at hS
    have S : Ev (fun k => spec_MomentsOfSteps.f k p l (m : Int)) (if (l.take (l.length - 1)).any (fun y => decide (0 = y)) = true then (0, [], 5) else (p, sN p l m l.length, 0)) := by
      simp only [spec_MomentsOfSteps.f]
      refine Ev.bind h1 ?_
      simp only [if_true, spec_l01In.f, if_pos (show (l.length : Int) ≥ 1 by omega), decide_eq_true (show (l.length : Int) ≤ 24 by omega), Option.bind_some]
      refine Ev.bind h3 ?_
      simp only [if_true, if_pos (show (m : Int) ≥ 1 by omega), decide_eq_true (show (m : Int) ≤ 24 by omega), Option.bind_some, Bool.not_true]
      refine Ev.succ ?_
      simp only [spec_MomentsOfSteps.j0, Bool.false_eq_true, if_false]
      exact hS
    have I : Ev (fun k => impl_MomentsOfSteps.f k p l (m : Int)) (if (l.take (l.length - 1)).any (fun y => decide (0 = y)) = true then (0, [], 5) else (p, sN p l m l.length, 0)) := by
      simp only [impl_MomentsOfSteps.f]
      refine Ev.bind h2 ?_
      simp only [if_true, impl_within.f, if_pos (show (1 : Int) ≤ (m : Int) by omega), decide_eq_true (show (m : Int) ≤ 24 by omega), Option.bind_some, Bool.not_true]
      refine Ev.succ ?_
      have hw : wrap64 ((l.length : Int) - 1) = ((l.length - 1 : Nat) : Int) := by rw [w64 (by omega) (by omega)]; omega
      have q1 : (0 : Int) ≤ ((l.length - 1 : Nat) : Int) := by omega
      have q2 : ((l.length - 1 : Nat) : Int) ≤ (l.length : Int) := by omega
      have q3 : (0 : Int) ≤ (m : Int) := by omega
      have q4 : m ≤ 35184372088832 := by omega
      simp only [impl_MomentsOfSteps.j0, Bool.false_eq_true, if_false, hw, if_pos q1, if_pos q2, Int.toNat_natCast]
      refine Ev.bind hC ?_
      cases (l.take (l.length - 1)).any (fun y => decide (0 = y)) with
      | true => simp only [if_true]; exact Ev.now _
      | false =>
        have hpm := hp.pm
        have hp2 := hp.p2
        have hm1 : (1 : Int) % p = 1 := Int.emod_eq_of_lt (by omega) (by omega)
        have q5 : (0 : Int) < ((List.replicate m (0 : Int)).length : Int) := by rw [List.length_replicate]; omega
        simp only [Bool.false_eq_true, if_false, if_pos q3, if_pos q4, Option.bind_some, impl_mod hp.p0 (show p ≤ 1000000000 by omega), hm1, if_pos q5]
        have e : (List.replicate m (0 : Int)).set (0 : Int).toNat 1 = oN p l m 0 := by
          unfold oN unitL
          obtain ⟨j, rfl⟩ : ∃ j, m = j + 1 := ⟨m - 1, by omega⟩
          simp [List.replicate_succ]
        rw [e, hO]
        exact hI
    have ln := sN_len p l m l.length
    cases hc : (l.take (l.length - 1)).any (fun y => decide (0 = y)) with
    | true => rw [hc] at S I; exact ⟨0, [], 5, by simp, S, I⟩
    | false => rw [hc] at S I; exact ⟨p, sN p l m l.length, 0, by omega, S, I⟩
  · refine ⟨0, [], 2, by simp, ?_, ?_⟩
    · simp only [spec_MomentsOfSteps.f]
      refine Ev.bind h1 ?_
      cases hpr : primeB p with
      | false => simp only [Bool.false_eq_true, if_false]; exact sN_
      | true =>
        simp only [if_true, in_within, Option.bind_some]
        cases hw : withinB (l.length : Int) 1 24 with
        | false => simp only [Bool.false_eq_true, if_false]; exact sN_
        | true =>
          simp only [if_true]
          have hw' := within_iff.1 hw
          refine Ev.bind (spec_points (primeB_iff.1 hpr) l (by omega)) ?_
          cases hal : l.all (hasB p) with
          | false => simp only [Bool.false_eq_true, if_false]; exact sN_
          | true =>
            have hn : withinB n 1 24 = false := by
              cases hn : withinB n 1 24 with
              | false => rfl
              | true =>
                refine absurd ⟨?_, within_iff.1 hn⟩ hall
                simp only [arNum, Bool.and_eq_true]
                exact ⟨hpr, hw, hal⟩
            simp only [if_true, hn, Bool.not_false]; exact sN_
    · simp only [impl_MomentsOfSteps.f]
      refine Ev.bind h2 ?_
      cases ha : arNum p l 1 24 with
      | false => simp only [Bool.false_eq_true, if_false]; exact iN
      | true =>
        simp only [if_true, impl_within.f]
        by_cases c1 : 1 ≤ n
        · have c2 : ¬ n ≤ 24 := fun h => hall ⟨ha, c1, h⟩
          simp only [if_pos c1, decide_eq_false c2, Option.bind_some, Bool.not_false]; exact iN
        · simp only [if_neg c1, Option.bind_some, Bool.not_false]; exact iN

theorem FnExactMomentsOfSteps : laws_FnExactMomentsOfSteps.Pure := by
  intro p l n _ _ _ _ _
  by_cases hl0 : (l.length : Int) > 1048576
  · exact ⟨0, by simp only [laws_FnExactMomentsOfSteps.f, if_pos hl0]⟩
  obtain ⟨q, A, e, hA, f1, f2⟩ := same p l n (by omega)
  have f3 : Ev (fun k => laws_toInt64S.f k l) l := toI_same l (by omega)
  have f4 : Ev (fun k => laws_eqInt64S.f k l l) true := eqI_same l (by omega)
  have f5 : Ev (fun k => laws_markInt64S.f k l 1) (1 + l.length, up 1 l.length) := mark_up l (by omega) 1 (by omega) (by omega)
  have f6 := eqM_same q A (by omega)
  have f7 := markM_up q A (by omega) 1 (by omega) (by omega)
  have f8 := heldM_up q A.length (by omega) 1 (by omega) (by omega)
  have n1 : ¬ ((1 + l.length : Int) < 0) := by omega
  have n2 : ¬ ((1 + A.length : Int) < 0) := by omega
  refine Ev.rounds ?_
  simp only [laws_FnExactMomentsOfSteps.f, if_neg hl0]
  repeat (first | exact Ev.now _ | (refine Ev.bind (by assumption) ?_; try simp only [Option.bind_some, bne_self_eq_false, Bool.false_eq_true, Bool.not_true, Bool.not_false, Bool.or_false, Bool.or_self, eq_self, if_true, if_false, ite_self, if_neg n1, if_neg n2]) | (refine Ev.succ ?_; simp only [laws_FnExactMomentsOfSteps.j0, laws_FnExactMomentsOfSteps.j1, laws_FnExactMomentsOfSteps.j2]; try simp only [Option.bind_some, bne_self_eq_false, Bool.false_eq_true, Bool.not_true, Bool.not_false, Bool.or_false, Bool.or_self, eq_self, if_true, if_false, ite_self, if_neg n1, if_neg n2]))
end Go.Proofs.Ytepigphelclpcaa.Pure

