/- FnExactPadeOf: the program's PadeOf answers as the reference's at all arguments. No condition. -/
import Derived.Test.YtnhbpcfcgpcdfaaVFnExactPadeOf
import Derived.Test.YtnhbpcfcgpcdfaaMa4
import Derived.Test.YtnhbpcfcgpcdfaaMa1
import Derived.Test.YtnhbpcfcgpcdfaaMa10
import Derived.Test.YtnhbpcfcgpcdfaaMa5
import Derived.Test.YtnhbpcfcgpcdfaaMa9
import Derived.Test.YtnhbpcfcgpcdfaaRows
import Derived.Test.YtnhbpcfcgpcdfaaWSized
set_option linter.unusedVariables false
set_option linter.unusedSimpArgs false
namespace Go.Proofs.Ytnhbpcfcgpcdfaa.Pure
open Go.RowKit Go.Proofs.Ytnhbpcfcgpcdfaa.H Go.Proofs.YtnhbpcfcgpcdfaaW.PrintWords Go.Proofs.YtnhbpcfcgpcdfaaW.PrintLast Go.Proofs.YtnhbpcfcgpcdfaaW.PrintMore Go.Proofs.Ytnhbpcfcgpcdfaa.Num

theorem spec_no (p : Int) (l : List Int) (a b : Int) : Ev (fun k => spec_PadeOf.j0 k p l a b true) ([], [], 2) := by
  refine Ev.succ ?_; simp only [spec_PadeOf.j0, if_true]; exact Ev.now _
theorem impl_no (p : Int) (l : List Int) (a : Int) : Ev (fun k => impl_PadeOf.j0 k p l a true) ([], [], 2) := by
  refine Ev.succ ?_; simp only [impl_PadeOf.j0, if_true]; exact Ev.now _
theorem within_iff {x a b : Int} : withinB x a b = true ↔ a ≤ x ∧ x ≤ b := by unfold withinB; rw [Bool.and_eq_true, decide_eq_true_eq, decide_eq_true_eq]
theorem same (p : Int) (l : List Int) (a b : Int) (hf : l.length ≤ 1048576) : ∃ (r r2 : List Int) (e : Int), r.length ≤ 1000 ∧ r2.length ≤ 1000 ∧ Ev (fun k => spec_PadeOf.f k p l a b) (r, r2, e) ∧ Ev (fun k => impl_PadeOf.f k p l a b) (r, r2, e) := by
  have h1 := spec_prime p
  have iA : ∀ x, impl_within.f x 0 24 = some (withinB x 0 24) := fun x => by unfold impl_within.f withinB; by_cases h : 0 ≤ x <;> simp [h]
  by_cases hall : primeB p = true ∧ withinB a 0 24 = true ∧ withinB b 0 24 = true ∧ a + b < 24 ∧ (l.length : Int) = a + b + 1 ∧ l.all (hasB p) = true
  · obtain ⟨hpr, ha, hb, hab, hlen, hal⟩ := hall
    have hp := primeB_iff.1 hpr
    have ha' := within_iff.1 ha
    have hb' := within_iff.1 hb
    have hr : InR p l := fun x hx => hasB_iff.1 (List.all_eq_true.1 hal x hx)
    have w1 : wrap64 (a + b) = a + b := w64 (by omega) (by omega)
    have w2 : wrap64 (a + b + 1) = (l.length : Int) := by rw [w64 (by omega) (by omega)]; omega
    have h2 := spec_points hp l (by omega)
    have h3 := impl_numbers p l (l.length : Int) (l.length : Int)
    have hw : withinB (l.length : Int) (l.length : Int) (l.length : Int) = true := within_iff.2 ⟨by omega, by omega⟩
    simp only [arNum, hpr, hw, hal, Bool.true_and] at h3
    rw [hal] at h2
    rw [hpr] at h1
    have pf : Po p (List.replicate l.length 0 ++ [1]) := Po.of (by simp; omega) ((InR.zeros hp.p0 _).append (InR.one (by have := hp.p2; omega))) (.inr (by simp [co, List.getD_eq_getElem?_getD]))
    have htl := trimL_len l
    have pg : Po p (trimL l) := Po.of (by omega) hr.trim (Nz.trim _)
    have pt : Po p [1] := Po.of (by simp) (InR.one (by have := hp.p2; omega)) (.inr (by simp [co]))
    have hfl : (List.replicate l.length (0 : Int) ++ [1]).length = l.length + 1 := by simp
    have hs := spec_pad hp ha'.1 ((trimL l).length + 1) (List.replicate l.length 0 ++ [1]) (trimL l) [] [1] pf pg InR.nil pt (by omega) (by simp) (by simp; omega) (Nat.lt_succ_self _)
    have hi := impl_pad hp ha'.1 ((trimL l).length + 1) (List.replicate l.length 0 ++ [1]) (trimL l) [] [1] pf pg InR.nil pt (by omega) (by simp) (by simp; omega) (Nat.lt_succ_self _)
    have hpo := pad_spec hp ha'.1 ((trimL l).length + 1) (List.replicate l.length 0 ++ [1]) (trimL l) [] [1] pf pg InR.nil pt (by omega) (by simp) (by simp; omega) (Nat.lt_succ_self _)
    generalize padF p a ((trimL l).length + 1) (List.replicate l.length 0 ++ [1]) (trimL l) [] [1] = q at hs hi hpo
    have q1 := hpo.1.len
    have q2 := hpo.2.1.len
    have e1 := addL_len p [] q.1 (inv p (co q.2 0))
    have e2 := addL_len p [] q.2 (inv p (co q.2 0))
    have S : Ev (fun k => spec_PadeOf.f k p l a b) (padE p q.1 q.2) := by
      simp only [spec_PadeOf.f]
      refine Ev.bind h1 ?_
      simp only [if_true, in_within, ha, hb, Option.bind_some, w1, w2, if_neg (show ¬ (a + b ≥ 24) by omega)]
      refine Ev.bind h2 ?_
      refine Ev.succ ?_
      simp (disch := omega) only [spec_PadeOf.j0, Bool.not_true, Bool.false_eq_true, if_false, w1, w2, if_pos, Int.toNat_natCast, Option.bind_some, List.length_replicate]
      exact Ev.bind (spec_trim l (by omega)) hs
    have I : Ev (fun k => impl_field_pade.f k p l a) (padI p q.1 q.2) := by
      simp (disch := omega) only [impl_field_pade.f, if_pos, Int.toNat_natCast, Option.bind_some, List.length_replicate, clone_some]
      exact Ev.bind (impl_trim l (by omega)) hi
    have I2 : Ev (fun k => impl_PadeOf.f k p l a b) (padE p q.1 q.2) := by
      simp only [impl_PadeOf.f, iA, ha, hb, Option.bind_some, if_true, w1, w2, if_neg (show ¬ (a + b ≥ 24) by omega)]
      refine Ev.bind h3 ?_
      refine Ev.succ ?_
      simp only [impl_PadeOf.j0, Bool.not_true, Bool.false_eq_true, if_false]
      refine Ev.bind I ?_
      unfold padI padE
      by_cases hz : co q.2 0 = 0
      · simp only [if_pos hz, Bool.false_eq_true, if_false]; exact Ev.now _
      · simp only [if_neg hz, if_true]; exact Ev.now _
    unfold padE at S I2
    by_cases hz : co q.2 0 = 0
    · rw [if_pos hz] at S I2; exact ⟨[], [], 4, by simp, by simp, S, I2⟩
    · rw [if_neg hz] at S I2; exact ⟨_, _, 0, by simp only [List.length_nil] at e1; omega, by simp only [List.length_nil] at e2; omega, S, I2⟩
  · refine ⟨[], [], 2, by simp, by simp, ?_, ?_⟩
    · simp only [spec_PadeOf.f]
      refine Ev.bind h1 ?_
      cases hpr : primeB p with
      | false => simp only [Bool.false_eq_true, if_false]; exact spec_no p l a b
      | true =>
        simp only [if_true, in_within, Option.bind_some]
        cases ha : withinB a 0 24 with
        | false => simp only [Bool.false_eq_true, if_false]; exact spec_no p l a b
        | true =>
          cases hb : withinB b 0 24 with
          | false => simp only [if_true, Bool.false_eq_true, if_false]; exact spec_no p l a b
          | true =>
            have ha' := within_iff.1 ha
            have hb' := within_iff.1 hb
            have w1 : wrap64 (a + b) = a + b := w64 (by omega) (by omega)
            have w2 : wrap64 (a + b + 1) = a + b + 1 := w64 (by omega) (by omega)
            simp only [if_true, w1, w2]
            by_cases hab : a + b ≥ 24
            · simp only [if_pos hab]; exact spec_no p l a b
            · simp only [if_neg hab]
              by_cases hlen : (l.length : Int) = a + b + 1
              · simp only [if_pos hlen]
                refine Ev.bind (spec_points (primeB_iff.1 hpr) l (by omega)) ?_
                have : l.all (hasB p) = false := by
                  cases h : l.all (hasB p) with
                  | false => rfl
                  | true => exact absurd ⟨hpr, ha, hb, by omega, hlen, h⟩ hall
                simp only [this, Bool.not_false]; exact spec_no p l a b
              · simp only [if_neg hlen]; exact spec_no p l a b
    · simp only [impl_PadeOf.f, iA, Option.bind_some]
      cases ha : withinB a 0 24 with
      | false => simp only [Bool.false_eq_true, if_false]; exact impl_no p l a
      | true =>
        cases hb : withinB b 0 24 with
        | false => simp only [if_true, Bool.false_eq_true, if_false]; exact impl_no p l a
        | true =>
          have ha' := within_iff.1 ha
          have hb' := within_iff.1 hb
          have w1 : wrap64 (a + b) = a + b := w64 (by omega) (by omega)
          have w2 : wrap64 (a + b + 1) = a + b + 1 := w64 (by omega) (by omega)
          simp only [if_true, w1, w2]
          by_cases hab : a + b ≥ 24
          · simp only [if_pos hab]; exact impl_no p l a
          · simp only [if_neg hab]
            refine Ev.bind (impl_numbers p l _ _) ?_
            have : arNum p l (a + b + 1) (a + b + 1) = false := by
              cases h : arNum p l (a + b + 1) (a + b + 1) with
              | false => rfl
              | true =>
                simp only [arNum, Bool.and_eq_true] at h
                have hw := within_iff.1 h.2.1
                exact absurd ⟨h.1, ha, hb, by omega, by omega, h.2.2⟩ hall
            simp only [this, Bool.not_false]; exact impl_no p l a

theorem FnExactPadeOf : laws_FnExactPadeOf.Pure := by
  intro p l a b _ _ _ _ _ _
  by_cases hl0 : (l.length : Int) > 1048576
  · exact ⟨0, by simp only [laws_FnExactPadeOf.f, if_pos hl0]⟩
  obtain ⟨r, r2, e, hr, hr2, f1, f2⟩ := same p l a b (by omega)
  have f3 : Ev (fun k => laws_toInt64S.f k l) l := toI_same l (by omega)
  have f4 : Ev (fun k => laws_eqInt64S.f k l l) true := eqI_same l (by omega)
  have f5 : Ev (fun k => laws_markInt64S.f k l (1)) (1 + l.length, up (1) l.length) := mark_up l (by omega) (1) (by omega) (by omega)
  have n1 : ¬ ((1 + l.length : Int) < 0) := by omega
  have f6 : Ev (fun k => laws_eqInt64S.f k r r) true := eqI_same r (by omega)
  have f7 : Ev (fun k => laws_markInt64S.f k r (1)) (1 + r.length, up (1) r.length) := mark_up r (by omega) (1) (by omega) (by omega)
  have f8 : Ev (fun k => laws_heldInt64S.f k (up (1) r.length) (1)) (1 + r.length) := held_up r.length (by omega) (1) (by omega) (by omega)
  have m0 : ¬ ((1 + r.length : Int) < 0) := by omega
  have f9 : Ev (fun k => laws_eqInt64S.f k r2 r2) true := eqI_same r2 (by omega)
  have f10 : Ev (fun k => laws_markInt64S.f k r2 (1 + r.length)) (1 + r.length + r2.length, up (1 + r.length) r2.length) := mark_up r2 (by omega) (1 + r.length) (by omega) (by omega)
  have f11 : Ev (fun k => laws_heldInt64S.f k (up (1 + r.length) r2.length) (1 + r.length)) (1 + r.length + r2.length) := held_up r2.length (by omega) (1 + r.length) (by omega) (by omega)
  have m1 : ¬ ((1 + r.length + r2.length : Int) < 0) := by omega
  refine Ev.rounds ?_
  simp only [laws_FnExactPadeOf.f, if_neg hl0]
  repeat (first | exact Ev.now _ | (refine Ev.bind (by assumption) ?_; try simp only [Option.bind_some, bne_self_eq_false, Bool.false_eq_true, Bool.not_true, Bool.not_false, Bool.or_false, Bool.or_self, eq_self, if_true, if_false, ite_self, if_neg n1, if_neg m0, if_neg m1]) | (refine Ev.succ ?_; simp only [laws_FnExactPadeOf.j0, laws_FnExactPadeOf.j1, laws_FnExactPadeOf.j2]; try simp only [Option.bind_some, bne_self_eq_false, Bool.false_eq_true, Bool.not_true, Bool.not_false, Bool.or_false, Bool.or_self, eq_self, if_true, if_false, ite_self, if_neg n1, if_neg m0, if_neg m1]))
end Go.Proofs.Ytnhbpcfcgpcdfaa.Pure

