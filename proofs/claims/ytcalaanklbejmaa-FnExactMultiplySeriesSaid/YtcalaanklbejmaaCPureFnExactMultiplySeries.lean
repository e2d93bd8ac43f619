/- FnExactMultiplySeries: the program's MultiplySeries answers as the reference's at all arguments. No condition. -/
import Derived.Test.YtcalaanklbejmaaVFnExactMultiplySeries
import Derived.Test.YtcalaanklbejmaaMa1
import Derived.Test.YtcalaanklbejmaaMab1
import Derived.Test.YtcalaanklbejmaaMabc2
import Derived.Test.YtcalaanklbejmaaMa3
import Derived.Test.YtcalaanklbejmaaMabc3
import Derived.Test.YtcalaanklbejmaaMa2
import Derived.Test.YtcalaanklbejmaaRows
import Derived.Test.YtcalaanklbejmaaWSized
set_option linter.unusedVariables false
set_option linter.unusedSimpArgs false
namespace Go.Proofs.Ytcalaanklbejmaa.Pure
open Go.RowKit Go.Proofs.Ytcalaanklbejmaa.H Go.Proofs.YtcalaanklbejmaaW.PrintWords Go.Proofs.YtcalaanklbejmaaW.PrintLast Go.Proofs.YtcalaanklbejmaaW.PrintMore Go.Proofs.Ytcalaanklbejmaa.Num

theorem within_iff {x a b : Int} : withinB x a b = true ↔ a ≤ x ∧ x ≤ b := by unfold withinB; rw [Bool.and_eq_true, decide_eq_true_eq, decide_eq_true_eq]
theorem arNum_iff {p a b : Int} {l : List Int} (h : arNum p l a b = true) : IsP p ∧ a ≤ l.length ∧ l.length ≤ b ∧ InR p l := by
  simp only [arNum, Bool.and_eq_true] at h
  have hw := within_iff.1 h.2.1
  exact ⟨primeB_iff.1 h.1, hw.1, hw.2, fun x hx => hasB_iff.1 (List.all_eq_true.1 h.2.2 x hx)⟩
theorem arNum_of {p a b : Int} {l : List Int} (hp : IsP p) (h1 : a ≤ l.length) (h2 : l.length ≤ b) (hr : InR p l) : arNum p l a b = true := by
  simp only [arNum, Bool.and_eq_true]
  exact ⟨primeB_iff.2 hp, within_iff.2 ⟨h1, h2⟩, List.all_eq_true.2 fun x hx => hasB_iff.2 (hr x hx)⟩
theorem same (p : Int) (f g : List Int) (hf : f.length ≤ 1048576) (hg : g.length ≤ 1048576) : ∃ (r : List Int) (e : Int), r.length ≤ 1000 ∧ Ev (fun k => spec_MultiplySeries.f k p f g) (r, e) ∧ Ev (fun k => impl_MultiplySeries.f k p f g) (r, e) := by
  have s1 := spec_given (p := p) (a := 0) (l := f) (by omega)
  have s2 := spec_given (p := p) (a := 0) (l := g) (by omega)
  have i1 := impl_numbers p f 0 24
  have i2 := impl_numbers p g (f.length : Int) (f.length : Int)
  have iL : impl_length_int64.f f = some (f.length : Int) := by simp only [impl_length_int64.f]
  have sN : Ev (fun k => spec_MultiplySeries.j0 k p f g true) ([], 2) := by refine Ev.succ ?_; simp only [spec_MultiplySeries.j0, if_true]; exact Ev.now _
  have iN : Ev (fun k => impl_MultiplySeries.j0 k p f g true) ([], 2) := by refine Ev.succ ?_; simp only [impl_MultiplySeries.j0, if_true]; exact Ev.now _
  have none_ : (∃ r : List Int × Int, r = ([], 2) ∧ Ev (fun k => spec_MultiplySeries.f k p f g) r ∧ Ev (fun k => impl_MultiplySeries.f k p f g) r) → ∃ (r : List Int) (e : Int), r.length ≤ 1000 ∧ Ev (fun k => spec_MultiplySeries.f k p f g) (r, e) ∧ Ev (fun k => impl_MultiplySeries.f k p f g) (r, e) := by
    rintro ⟨r, rfl, h1, h2⟩; exact ⟨[], 2, by simp, h1, h2⟩
  cases hA : arNum p f 0 24 with
  | false =>
    rw [hA] at s1 i1
    refine none_ ⟨_, rfl, ?_, ?_⟩
    · simp only [spec_MultiplySeries.f]
      refine Ev.bind s1 ?_
      simp only [Bool.false_eq_true, if_false]; exact sN
    · simp only [impl_MultiplySeries.f]
      refine Ev.bind i1 ?_
      simp only [Bool.false_eq_true, if_false]; exact iN
  | true =>
    rw [hA] at s1 i1
    obtain ⟨hp, a1, a2, ra⟩ := arNum_iff hA
    cases hB : arNum p g (f.length : Int) (f.length : Int) with
    | false =>
      rw [hB] at i2
      refine none_ ⟨_, rfl, ?_, ?_⟩
      · simp only [spec_MultiplySeries.f]
        refine Ev.bind s1 ?_
        simp only [if_true]
        refine Ev.bind s2 ?_
        cases hC : arNum p g 0 24 with
        | false => simp only [Bool.false_eq_true, if_false]; exact sN
        | true =>
          obtain ⟨_, b1, b2, rb⟩ := arNum_iff hC
          have hne : ((f.length : Int) != (g.length : Int)) = true := by
            cases h : ((f.length : Int) != (g.length : Int)) with
            | true => rfl
            | false =>
              have h' : (f.length : Int) = (g.length : Int) := by simpa using h
              rw [arNum_of hp (by omega) (by omega) rb] at hB; exact absurd hB (by simp)
          simp only [if_true, hne]; exact sN
      · simp only [impl_MultiplySeries.f]
        refine Ev.bind i1 ?_
        simp only [if_true, iL, Option.bind_some]
        refine Ev.bind i2 ?_
        simp only [Bool.not_false]; exact iN
    | true =>
      rw [hB] at i2
      obtain ⟨_, b1, b2, rb⟩ := arNum_iff hB
      have hlen : g.length = f.length := by omega
      have hC : arNum p g 0 24 = true := arNum_of hp (by omega) (by omega) rb
      rw [hC] at s2
      have hs := spec_mulser hp ra rb rfl hlen (by omega)
      have hi := impl_mulser hp ra rb rfl hlen (by omega) f.length 0 (by omega)
      rw [show msL p f g 0 = [] from rfl, List.nil_append] at hi
      refine ⟨msL p f g f.length, 0, by rw [msL_len]; omega, ?_, ?_⟩
      · simp only [spec_MultiplySeries.f]
        refine Ev.bind s1 ?_
        simp only [if_true]
        refine Ev.bind s2 ?_
        simp only [if_true, hlen, bne_self_eq_false]
        refine Ev.succ ?_
        simp (disch := omega) only [spec_MultiplySeries.j0, Bool.false_eq_true, if_false, if_pos, Int.toNat_natCast]
        exact hs
      · simp only [impl_MultiplySeries.f]
        refine Ev.bind i1 ?_
        simp only [if_true, iL, Option.bind_some]
        refine Ev.bind i2 ?_
        simp only [Bool.not_true]
        refine Ev.succ ?_
        simp (disch := omega) only [impl_MultiplySeries.j0, Bool.false_eq_true, if_false, if_pos, Int.toNat_natCast, Option.bind_some, List.length_replicate]
        exact hi

theorem FnExactMultiplySeries : laws_FnExactMultiplySeries.Pure := by
  intro p f g _ _ _ _ _ _ _
  by_cases hl0 : (f.length : Int) > 1048576
  · exact ⟨0, by simp only [laws_FnExactMultiplySeries.f, if_pos hl0]⟩
  by_cases hl1 : (g.length : Int) > 1048576
  · exact ⟨0, by simp only [laws_FnExactMultiplySeries.f, if_neg hl0, if_pos hl1]⟩
  obtain ⟨r, e, hr, f1, f2⟩ := same p f g (by omega) (by omega)
  have f3 : Ev (fun k => laws_toInt64S.f k f) f := toI_same f (by omega)
  have f4 : Ev (fun k => laws_eqInt64S.f k f f) true := eqI_same f (by omega)
  have f5 : Ev (fun k => laws_toInt64S.f k g) g := toI_same g (by omega)
  have f6 : Ev (fun k => laws_eqInt64S.f k g g) true := eqI_same g (by omega)
  have f7 : Ev (fun k => laws_markInt64S.f k f (1)) (1 + f.length, up (1) f.length) := mark_up f (by omega) (1) (by omega) (by omega)
  have f8 : Ev (fun k => laws_markInt64S.f k g (1 + f.length)) (1 + f.length + g.length, up (1 + f.length) g.length) := mark_up g (by omega) (1 + f.length) (by omega) (by omega)
  have n1 : ¬ ((1 + f.length + g.length : Int) < 0) := by omega
  have f9 : Ev (fun k => laws_eqInt64S.f k r r) true := eqI_same r (by omega)
  have f10 : Ev (fun k => laws_markInt64S.f k r (1)) (1 + r.length, up (1) r.length) := mark_up r (by omega) (1) (by omega) (by omega)
  have f11 : Ev (fun k => laws_heldInt64S.f k (up (1) r.length) (1)) (1 + r.length) := held_up r.length (by omega) (1) (by omega) (by omega)
  have m0 : ¬ ((1 + r.length : Int) < 0) := by omega
  refine Ev.rounds ?_
  simp only [laws_FnExactMultiplySeries.f, if_neg hl0, if_neg hl1]
  repeat (first | exact Ev.now _ | (refine Ev.bind (by assumption) ?_; try simp only [Option.bind_some, bne_self_eq_false, Bool.false_eq_true, Bool.not_true, Bool.not_false, Bool.or_false, Bool.or_self, eq_self, if_true, if_false, ite_self, if_neg n1, if_neg m0]) | (refine Ev.succ ?_; simp only [laws_FnExactMultiplySeries.j0, laws_FnExactMultiplySeries.j1, laws_FnExactMultiplySeries.j2]; try simp only [Option.bind_some, bne_self_eq_false, Bool.false_eq_true, Bool.not_true, Bool.not_false, Bool.or_false, Bool.or_self, eq_self, if_true, if_false, ite_self, if_neg n1, if_neg m0]))
end Go.Proofs.Ytcalaanklbejmaa.Pure

