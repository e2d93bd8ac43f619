/- FnExactMomentsOfNodes: the program's MomentsOfNodes answers as the reference's at all arguments. No condition. -/
import Derived.Test.YtnigpjcnffgfgaaVFnExactMomentsOfNodes
import Derived.Test.YtnigpjcnffgfgaaMb2
import Derived.Test.YtnigpjcnffgfgaaMb1
import Derived.Test.YtnigpjcnffgfgaaMab1
import Derived.Test.YtnigpjcnffgfgaaMb6
import Derived.Test.YtnigpjcnffgfgaaMab2
import Derived.Test.YtnigpjcnffgfgaaMab3
import Derived.Test.YtnigpjcnffgfgaaMb5
import Derived.Test.YtnigpjcnffgfgaaMb4
import Derived.Test.YtnigpjcnffgfgaaRows
import Derived.Test.YtnigpjcnffgfgaaYWSized
set_option linter.unusedVariables false
set_option linter.unusedSimpArgs false
namespace Go.Proofs.Ytnigpjcnffgfgaa.Pure
open Go.RowKit Go.Proofs.Ytnigpjcnffgfgaa.H Go.Proofs.YtnigpjcnffgfgaaW.PrintWords Go.Proofs.YtnigpjcnffgfgaaW.PrintLast Go.Proofs.YtnigpjcnffgfgaaW.PrintMore Go.Proofs.Ytnigpjcnffgfgaa.Num

theorem same (p : Int) (xs ys : List Int) (n : Int) (hx : xs.length ≤ 1048576) (hy : ys.length ≤ 1048576) : ∃ (q : Int) (A : List Int) (e : Int), A.length ≤ 1000 ∧ Ev (fun k => spec_MomentsOfNodes.f k p xs ys n) (q, A, e) ∧ Ev (fun k => impl_MomentsOfNodes.f k p xs ys n) (q, A, e) := by
  have h1 := spec_nodes p xs ys (by omega) (by omega)
  have h2 := impl_nodes p xs ys 12 (by omega)
  cases hn : ndB p xs ys 12 with
  | false =>
    rw [hn] at h1 h2
    refine ⟨0, [], 2, by simp, ?_, ?_⟩
    · simp only [spec_MomentsOfNodes.f]; refine Ev.bind h1 ?_; simp only [Bool.false_eq_true, if_false]; exact Ev.now _
    · simp only [impl_MomentsOfNodes.f]; refine Ev.bind h2 ?_; simp only [Bool.false_eq_true, if_false]; exact Ev.now _
  | true =>
    rw [hn] at h1 h2
    obtain ⟨hp, c1, c2, rx, ry⟩ := ndB_iff hn
    by_cases a1 : 1 ≤ n
    · by_cases a2 : n ≤ 24
      · obtain ⟨m, rfl⟩ : ∃ m : Nat, n = (m : Int) := ⟨n.toNat, by omega⟩
        have hs := spec_momentsOf (n := m) hp rx ry c2 (by omega) (by omega) m 0 (by omega)
        have hi := impl_momentsOf (n := m) hp rx ry c2 (by omega) (by omega) m 0 (by omega)
        rw [pwL_0 hp.p0 ry c2] at hs
        have ln := mnL_len p xs ys m
        have S : Ev (fun k => spec_l02Of.f k p xs ys (m : Int)) (p, mnL p xs ys m) := by
          simp only [spec_l02Of.f, own_some ys (by omega), Option.bind_some]; exact hs
        have I : Ev (fun k => impl_field_momentsOf.f k p xs ys (m : Int)) (p, mnL p xs ys m) := by
          simp only [impl_field_momentsOf.f]; exact hi
        refine ⟨p, mnL p xs ys m, 0, by omega, ?_, ?_⟩
        · simp only [spec_MomentsOfNodes.f]; refine Ev.bind h1 ?_
          simp only [if_true, spec_l01In.f, if_pos (show (m : Int) ≥ 1 from a1), decide_eq_true a2, Option.bind_some]
          exact Ev.bind S (Ev.now _)
        · simp only [impl_MomentsOfNodes.f]; refine Ev.bind h2 ?_
          simp only [if_true, impl_within.f, if_pos a1, decide_eq_true a2, Option.bind_some]
          exact Ev.bind I (Ev.now _)
      · refine ⟨0, [], 2, by simp, ?_, ?_⟩
        · simp only [spec_MomentsOfNodes.f]; refine Ev.bind h1 ?_
          simp only [if_true, spec_l01In.f, if_pos (show n ≥ 1 from a1), decide_eq_false a2, Option.bind_some, Bool.false_eq_true, if_false]; exact Ev.now _
        · simp only [impl_MomentsOfNodes.f]; refine Ev.bind h2 ?_
          simp only [if_true, impl_within.f, if_pos a1, decide_eq_false a2, Option.bind_some, Bool.false_eq_true, if_false]; exact Ev.now _
    · refine ⟨0, [], 2, by simp, ?_, ?_⟩
      · simp only [spec_MomentsOfNodes.f]; refine Ev.bind h1 ?_
        simp only [if_true, spec_l01In.f, if_neg (show ¬ n ≥ 1 from a1), Option.bind_some, Bool.false_eq_true, if_false]; exact Ev.now _
      · simp only [impl_MomentsOfNodes.f]; refine Ev.bind h2 ?_
        simp only [if_true, impl_within.f, if_neg a1, Option.bind_some, Bool.false_eq_true, if_false]; exact Ev.now _

theorem FnExactMomentsOfNodes : laws_FnExactMomentsOfNodes.Pure := by
  intro p f g n _ _ _ _ _ _ _ _
  by_cases hl0 : (f.length : Int) > 1048576
  · exact ⟨0, by simp only [laws_FnExactMomentsOfNodes.f, if_pos hl0]⟩
  by_cases hl1 : (g.length : Int) > 1048576
  · exact ⟨0, by simp only [laws_FnExactMomentsOfNodes.f, if_neg hl0, if_pos hl1]⟩
  obtain ⟨q, A, e, hA, f1, f2⟩ := same p f g n (by omega) (by omega)
  have f3 : Ev (fun k => laws_toInt64S.f k f) f := toI_same f (by omega)
  have f4 : Ev (fun k => laws_eqInt64S.f k f f) true := eqI_same f (by omega)
  have f5 : Ev (fun k => laws_toInt64S.f k g) g := toI_same g (by omega)
  have f6 : Ev (fun k => laws_eqInt64S.f k g g) true := eqI_same g (by omega)
  have f7 : Ev (fun k => laws_markInt64S.f k f 1) (1 + f.length, up 1 f.length) := mark_up f (by omega) 1 (by omega) (by omega)
  have f8 : Ev (fun k => laws_markInt64S.f k g (1 + f.length)) (1 + f.length + g.length, up (1 + f.length) g.length) := mark_up g (by omega) (1 + f.length) (by omega) (by omega)
  have f9 := eqM_same q A (by omega)
  have f10 := markM_up q A (by omega) 1 (by omega) (by omega)
  have f11 := heldM_up q A.length (by omega) 1 (by omega) (by omega)
  have n1 : ¬ ((1 + f.length + g.length : Int) < 0) := by omega
  have n2 : ¬ ((1 + A.length : Int) < 0) := by omega
  refine Ev.rounds ?_
  simp only [laws_FnExactMomentsOfNodes.f, if_neg hl0, if_neg hl1]
  repeat (first | exact Ev.now _ | (refine Ev.bind (by assumption) ?_; try simp only [Option.bind_some, bne_self_eq_false, Bool.false_eq_true, Bool.not_true, Bool.not_false, Bool.or_false, Bool.or_self, eq_self, if_true, if_false, ite_self, if_neg n1, if_neg n2]) | (refine Ev.succ ?_; simp only [laws_FnExactMomentsOfNodes.j0, laws_FnExactMomentsOfNodes.j1, laws_FnExactMomentsOfNodes.j2]; try simp only [Option.bind_some, bne_self_eq_false, Bool.false_eq_true, Bool.not_true, Bool.not_false, Bool.or_false, Bool.or_self, eq_self, if_true, if_false, ite_self, if_neg n1, if_neg n2]))
end Go.Proofs.Ytnigpjcnffgfgaa.Pure

