/- FnExactQuotientsOf: the program's QuotientsOf answers as the reference's at all arguments. No condition. -/
import Derived.Test.YtlmolloallhclaaVFnExactQuotientsOf
import Derived.Test.YtlmolloallhclaaMa4
import Derived.Test.YtlmolloallhclaaMa8
import Derived.Test.YtlmolloallhclaaRows
import Derived.Test.YtlmolloallhclaaYWSized
set_option linter.unusedVariables false
set_option linter.unusedSimpArgs false
namespace Go.Proofs.Ytlmolloallhclaa.Pure
open Go.RowKit Go.Proofs.Ytlmolloallhclaa.H Go.Proofs.YtlmolloallhclaaW.PrintWords Go.Proofs.YtlmolloallhclaaW.PrintLast Go.Proofs.YtlmolloallhclaaW.PrintMore Go.Proofs.Ytlmolloallhclaa.Num

theorem same (p : Int) (f g : List Int) (hf : f.length ≤ 1048576) (hg : g.length ≤ 1048576) : ∃ (r : List (List Int)) (e : Int), r.length ≤ 1000 ∧ (∀ l ∈ r, l.length ≤ 1000) ∧ Ev (fun k => spec_QuotientsOf.f k p f g) (r, e) ∧ Ev (fun k => impl_QuotientsOf.f k p f g) (r, e) := by
  have h1 := spec_code p [f, g] (by simp) (by simp; omega)
  have h2 := impl_code2 p true f g
  by_cases hc : codeL p true [f, g] = 0
  · obtain ⟨hp, _, hq⟩ := codeL_0 hc
    have pf := hq f (by simp)
    have pg := hq g (by simp)
    have lf := pf.len
    have lg := pg.len
    rw [hc] at h1 h2
    by_cases h0 : g.length = 0
    · have hz : ((g.length : Int) == 0) = true := by rw [h0]; rfl
      have hz2 : (g.length : Int) = 0 := by omega
      refine ⟨[], 5, by simp, by simp, ?_, ?_⟩
      · simp only [spec_QuotientsOf.f]
        refine Ev.bind h1 ?_
        simp only [if_true, hz]
        refine Ev.succ ?_
        simp only [spec_QuotientsOf.j0, if_true]
        refine Ev.succ ?_
        simp only [spec_QuotientsOf.j1, show ¬ ((5 : Int) = 0) by omega, if_false]
        exact Ev.now _
      · simp only [impl_QuotientsOf.f]
        refine Ev.bind h2 ?_
        simp only [if_true, if_pos hz2]
        exact Ev.now _
    · have hz : ((g.length : Int) == 0) = false := beq_eq_false_iff_ne.mpr (by omega)
      have hz2 : ¬ (g.length : Int) = 0 := by omega
      have hs := spec_quo hp (g.length + 1) f g [] pf pg (by omega) (by simp; omega)
      have hi := impl_quo hp (g.length + 1) f g [] pf pg (by omega) (by simp; omega)
      rw [List.nil_append] at hs hi
      refine ⟨quoF p (g.length + 1) f g, 0, by have := quo_len p (g.length + 1) f g; omega, fun l hl => by have := quo_el hp _ f g pf pg l hl; omega, ?_, ?_⟩
      · simp only [spec_QuotientsOf.f]
        refine Ev.bind h1 ?_
        simp only [if_true, hz]
        refine Ev.succ ?_
        simp only [spec_QuotientsOf.j0, Bool.false_eq_true, if_false]
        refine Ev.succ ?_
        simp only [spec_QuotientsOf.j1, if_true]
        exact hs
      · simp only [impl_QuotientsOf.f]
        refine Ev.bind h2 ?_
        simp only [if_true, if_neg hz2]
        exact hi
  · refine ⟨[], codeL p true [f, g], by simp, by simp, ?_, ?_⟩
    · simp only [spec_QuotientsOf.f]
      refine Ev.bind h1 ?_
      simp only [if_neg hc]
      refine Ev.succ ?_
      simp only [spec_QuotientsOf.j0, Bool.false_eq_true, if_false]
      refine Ev.succ ?_
      simp only [spec_QuotientsOf.j1, if_neg hc]
      exact Ev.now _
    · simp only [impl_QuotientsOf.f]
      refine Ev.bind h2 ?_
      simp only [if_neg hc]
      exact Ev.now _
theorem FnExactQuotientsOf : laws_FnExactQuotientsOf.Pure := by
  intro p f g hf hg
  obtain ⟨r, e, lr, lrow, ⟨K1, s1⟩, ⟨K2, s2⟩⟩ := same p f g hf hg
  have ht := tot_le 1000 r lrow
  have ht2 : 1000 * r.length ≤ 1000000 := by omega
  have hrow : ∀ l ∈ r, l.length ≤ 2000000 := fun l hl => by have := lrow l hl; omega
  obtain ⟨K3, s3⟩ := toI_same f hf
  obtain ⟨K4, s4⟩ := toI_same g hg
  obtain ⟨K5, s5⟩ := eqS_same r hrow (by omega)
  obtain ⟨K6, s6⟩ := eqI_same f (by omega)
  obtain ⟨K7, s7⟩ := eqI_same g (by omega)
  obtain ⟨K8, s8⟩ := mark_up f (by omega) 1 (by omega) (by omega)
  obtain ⟨K9, s9⟩ := mark_up g (by omega) (1 + f.length) (by omega) (by omega)
  obtain ⟨K10, s10⟩ := markS_up r hrow 1 (by omega) (by omega) (by omega)
  obtain ⟨K11, s11⟩ := heldS_up r hrow 1 (by omega) (by omega) (by omega)
  refine ⟨K1 + K2 + K3 + K4 + K5 + K6 + K7 + K8 + K9 + K10 + K11, r, upS 1 r, _, _, e, _, _, _, s3 _ (by omega), s4 _ (by omega), s1 _ (by omega), s2 _ (by omega), s5 _ (by omega), s6 _ (by omega), s7 _ (by omega), s8 _ (by omega), s9 _ (by omega), by omega, s10 _ (by omega), s11 _ (by omega), by omega⟩
end Go.Proofs.Ytlmolloallhclaa.Pure

